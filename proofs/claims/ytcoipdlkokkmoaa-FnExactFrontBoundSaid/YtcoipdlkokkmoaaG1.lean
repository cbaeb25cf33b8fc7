/- Functions of the program as typed functions, and that the machine runs as they say (part 1). No further condition. -/
import Derived.Test.YtcoipdlkokkmoaaK3
import Derived.Test.YtcoipdlkokkmoaaProg
import Derived.Test.YtcoipdlkokkmoaaChecked
import Derived.KernelRfl
set_option linter.unusedVariables false
set_option linter.unusedSimpArgs false
/- Functions of the program, as typed functions, and that the machine runs as they say. -/
namespace Go.Zq
open Go.Proofs
/- loop.example/g01109/laws.szIntA2S -/
def A9_3 : AC := (.cond (.t 10) (.seq (.reg [] [((jv 4 (.mov (jn (-1)))))] []) .ret) .skip)
def A9_4 : AC := (.seq (.reg [] [(jm 11 1), (jm 4 11)] []) .ret)
def A9_2 : AC := (.seq (.seq (.reg [] [(jm 9 1), ((jv 10 (.bin .lss (.t 9) (jn 0))))] []) A9_3) A9_4)
def A9_1 : AC := (.seq (.reg [] [(jm 5 1), (jm 6 0), ((jv 7 (.len (.t 6)))), ((jv 8 (.bin .sub (.t 5) (.t 7)))), (jm 1 8)] []) A9_2)
def A9 : AC := (.seq (.reg [] [((jv 4 (.mov (jn 0))))] []) A9_1)
def an9 : List An := []
theorem c9 : cC Try.prog Try.f9.ntmps an9 (Try.f9.body.getD .skip) = some A9 := by kernel_rfl
structure H9 (D : Den) (σ : Sig) (F : Nat) : Prop where
  mk ::
abbrev R9 (r : Int) : (Nat → V) → Prop := RR Try.prog [.tmp 4] 0 false (Enc.enc (r : Int))
section
variable {D : Den} {σ : Sig} {F : Nat} {r : Int}
def w_szIntA2S (F : Nat) (x_1 : (List (Int × Int))) (x_2 : Int) : Option Int :=
  bif decide ((w64 (x_2 - (x_1.length : Int))) < 0) then
    some (-1)
  else
    some (w64 (x_2 - (x_1.length : Int)))
theorem t9 (H : H9 D σ F) (x_1 : (List (Int × Int))) (x_2 : Int) (s : Nat → V) (hs : Facts [(0, (Enc.enc (x_1 : List (Int × Int)))), (1, (ji x_2))] s) (h : w_szIntA2S F x_1 x_2 = some r) : Run D σ (R9 r) (.run A9 []) s := by
  unfold w_szIntA2S at h
  obtain ⟨h0, h1⟩ := hs
  refine .seq (rg (g0 (ji 0) fun h4 => gq (.nsq (.seq (rg (gm h1 fun h5 => gm h0 fun h6 => gv (ji (x_1.length : Int)) (ev_len (xs := x_1) h6) fun h7 => ?_))))))
  refine g2 5 7 (ji (w64 (x_2 - (x_1.length : Int)))) h5 h7 fun h8 => ?_
  refine gm h8 fun h1 => gq (.nsq (.seq (.seq (rg (gm h1 fun h9 => g1 9 (jb (decide ((w64 (x_2 - (x_1.length : Int))) < 0))) h9 fun h10 => ?_)))))
  refine gq (.nsq (run_cond (t := decide ((w64 (x_2 - (x_1.length : Int))) < 0)) h10 h (fun h => ?_) (fun h => ?_)))
  · refine .seq (rg (g0 (ji (-1)) fun h4 => ?_))
    refine gq (.nsq (.ret ?_))
    have hr := Option.some.inj h
    subst hr
    exact rrA (res_tmp h4) rfl
  refine .skip (.nsq (.seq (rg (gm h1 fun h11 => gm h11 fun h4 => gq (.nsq (.ret ?_))))))
  have hr := Option.some.inj h
  subst hr
  exact rrA (res_tmp h4) rfl
end
def e9 (F : Nat) : Ent := ent 9 (fun (x : ((List (Int × Int)) × Int × Unit)) => w_szIntA2S F x.1 x.2.1) (fun (r : Int) => (Enc.enc (r : Int))) 0 false []
theorem p9 {F : Nat} {x0 : (List (Int × Int))} {x1 : Int} {r : Int} (h : w_szIntA2S F x0 x1 = some r) : (e9 F).den [Enc.enc x0, Enc.enc x1] = some (Enc.enc (r : Int)) := ent_put (x0, x1, ()) h
theorem o9 {D : Den} {σ : Sig} {F : Nat} (hF : Fits2 Try.prog D σ) (H : H9 D σ F) : (e9 F).Ok Try.prog := by
  refine ok_of (f := 9) (show unk 9 = 9 from rfl) (fun args r h => ?_) ⟨Try.f9, Try.func9, rfl, rfl⟩
  obtain ⟨⟨x0, x1, _⟩, y, rfl, hy, rfl⟩ := da_open h
  exact contract_run hF (by kernel_rfl) Try.func9 rfl c9 (show 2 ≤ Try.f9.ntmps by decide) (t9 H x0 x1 _ ⟨rfl, rfl⟩ hy)
/- loop.example/g01109/laws.szGraph -/
def A4_3 : AC := (.cond (.t 10) (.seq (.reg [] [((jv 4 (.mov (jn (-1)))))] []) .ret) .skip)
def A4_4 : AC := (.seq (.reg [] [(jm 11 1), (jm 4 11)] []) .ret)
def A4_2 : AC := (.seq (.seq (.reg [] [(jm 9 1), ((jv 10 (.bin .lss (.t 9) (jn 0))))] []) A4_3) A4_4)
def A4_1 : AC := (.seq (.reg [] [((jv 5 (.fld (.t 2) 1 1))), ((jv 6 (.load .p (.t 5)))), (jm 7 1), (.mk (some 8) none false (.call (.k (.fn 9 [] [])) [(.t 6), (.t 7)])), (jm 1 8)] []) A4_2)
def A4 : AC := (.seq (.reg [.clr [2]] [(.mk (some 2) none false (.box (.t 0))), ((jv 4 (.mov (jn 0))))] []) A4_1)
def an4 : List An := [{ id := 0, pre := [.clr [2]], ep := [], lin := [], sp := [] }]
theorem c4 : cC Try.prog Try.f4.ntmps an4 (Try.f4.body.getD .skip) = some A4 := by kernel_rfl
structure H4 (D : Den) (σ : Sig) (F : Nat) : Prop where
  c9 : ∀ (x0 : (List (Int × Int))) (x1 : Int) r, w_szIntA2S F x0 x1 = some r → D 9 [Enc.enc x0, Enc.enc x1] = some (Enc.enc (r : Int))
  g9 : σ 9 = some (0, false)
abbrev R4 (r : Int) : (Nat → V) → Prop := RR Try.prog [.tmp 4] 0 false (Enc.enc (r : Int))
section
variable {D : Den} {σ : Sig} {F : Nat} {r : Int}
def w_szGraph (F : Nat) (x_1 : (Int × (List (Int × Int)))) (x_2 : Int) : Option Int :=
  (w_szIntA2S F x_1.2 x_2).bind fun r_3 =>
  bif decide (r_3 < 0) then
    some (-1)
  else
    some r_3
theorem t4 (H : H4 D σ F) (x_1 : (Int × (List (Int × Int)))) (x_2 : Int) (s : Nat → V) (hs : Facts [(0, (.agg [(ji x_1.1), (Enc.enc (x_1.2 : List (Int × Int)))])), (1, (ji x_2))] s) (h : w_szGraph F x_1 x_2 = some r) : Run D σ (R4 r) (.run A4 []) s := by
  unfold w_szGraph at h
  obtain ⟨h0, h1⟩ := hs
  refine .seq (run_reg ?_)
  refine e_clr ?_
  refine ez [(0, _), (1, _), (2, _)] ⟨(keep_clear (pk := [2]) h0 rfl (map_agg (maps_cons mi (maps_cons me maps_nil)))), (keep_clear (pk := [2]) h1 rfl mi), (gone_clear (pk := [2]) (t := 2) rfl)⟩ ?_
  rintro s ⟨h0, h1, h2⟩
  refine g_box (.agg [(ji x_1.1), (Enc.enc (x_1.2 : List (Int × Int)))]) (rd_of h0 rfl) h2 rfl ?_
  refine g0 (ji 0) fun h4 => gq (.nsq (.seq (rg (g1 2 (.ref (.bx 2) 0 [1] (Enc.enc (x_1.2 : List (Int × Int)))) (rfl : (_ : V) = (.ref (.bx 2) 0 [] (.agg [(ji x_1.1), (Enc.enc (x_1.2 : List (Int × Int)))]))) fun h5 => ?_))))
  refine g1 5 (Enc.enc (x_1.2 : List (Int × Int))) h5 fun h6 => ?_
  refine gm h1 fun h7 => ?_
  obtain ⟨r_3, E_r_3, h⟩ := bind_some h
  refine g_call (m := 0) (al := false) (r := (Enc.enc (r_3 : Int))) [Enc.enc (x_1.2 : (List (Int × Int))), Enc.enc (x_2 : Int)] (ta_cons (v := (Enc.enc (x_1.2 : List (Int × Int)))) h6 rfl (Enc.erase_enc (x_1.2 : (List (Int × Int)))) (ta_cons (v := (ji x_2)) h7 rfl rfl ta_nil)) (H.c9 _ _ _ E_r_3) H.g9 rfl rfl rfl rfl ?_
  refine gm (rfl : (_ : V) = (ji r_3)) fun h1 => ?_
  refine gq (.nsq (.seq (.seq (rg (gm h1 fun h9 => g1 9 (jb (decide (r_3 < 0))) h9 fun h10 => ?_)))))
  refine gq (.nsq (run_cond (t := decide (r_3 < 0)) h10 h (fun h => ?_) (fun h => ?_)))
  · refine .seq (rg (g0 (ji (-1)) fun h4 => ?_))
    refine gq (.nsq (.ret ?_))
    have hr := Option.some.inj h
    subst hr
    exact rrA (res_tmp h4) rfl
  refine .skip (.nsq (.seq (rg (gm h1 fun h11 => gm h11 fun h4 => gq (.nsq (.ret ?_))))))
  have hr := Option.some.inj h
  subst hr
  exact rrA (res_tmp h4) rfl
end
def e4 (F : Nat) : Ent := ent 4 (fun (x : ((Int × (List (Int × Int))) × Int × Unit)) => w_szGraph F x.1 x.2.1) (fun (r : Int) => (Enc.enc (r : Int))) 0 false []
theorem p4 {F : Nat} {x0 : (Int × (List (Int × Int)))} {x1 : Int} {r : Int} (h : w_szGraph F x0 x1 = some r) : (e4 F).den [Enc.enc x0, Enc.enc x1] = some (Enc.enc (r : Int)) := ent_put (x0, x1, ()) h
theorem o4 {D : Den} {σ : Sig} {F : Nat} (hF : Fits2 Try.prog D σ) (H : H4 D σ F) : (e4 F).Ok Try.prog := by
  refine ok_of (f := 4) (show unk 4 = 4 from rfl) (fun args r h => ?_) ⟨Try.f4, Try.func4, rfl, rfl⟩
  obtain ⟨⟨x0, x1, _⟩, y, rfl, hy, rfl⟩ := da_open h
  exact contract_run hF (by kernel_rfl) Try.func4 rfl c4 (show 2 ≤ Try.f4.ntmps by decide) (t4 H x0 x1 _ ⟨rfl, rfl⟩ hy)
/- loop.example/g01109/laws.toIntA2 -/
def A28_2 : AC := (.cond (.t 6) .skip (.exit 0))
def A28_4 : AC := (.reg [] [(jm 7 4), ((jv 8 (.bin .add (.t 7) (jn 1)))), (jm 4 8)] [])
def A28_3 : AC := (.seq (.block 1 (.reg [] [(jm 9 4), (jm 10 4), ((jv 11 (.idxA (.t 1) (.t 10) 2 1))), ((jv 12 (.load .s (.t 11)))), ((jv 13 (.idxA (.t 3) (.t 9) 2 1))), (.mk none none false (.store .s (.t 13) (.t 12)))] [])) A28_4)
def A28_1 : AC := (.seq (.seq (.reg [] [(jm 5 4), ((jv 6 (.bin .lss (.t 5) (jn 2))))] []) A28_2) A28_3)
def A28_5 : AC := (.seq (.reg [] [((jv 14 (.load (.ag [.s, .s]) (.t 3)))), (.mk none none false (.store (.ag [.s, .s]) (.t 2) (.t 14)))] []) .ret)
def A28_8 : AC := (.block 0 (.loop A28_1))
def A28_7 : AC := (.seq (.seq (.reg [] [((jv 4 (.mov (jn 0))))] []) A28_8) A28_5)
def A28_6 : AC := (.seq (.reg [.clr [3]] [(.mk (some 3) none false (.alloc (.agg [(.int .i64 (.ofNat 0)), (.int .i64 (.ofNat 0))])))] []) A28_7)
def A28 : AC := (.seq (.reg [.clr [1, 2]] [(.mk (some 1) none false (.box (.t 0))), (.mk (some 2) none false (.alloc (.agg [(.int .i64 (.ofNat 0)), (.int .i64 (.ofNat 0))])))] []) A28_6)
def an28 : List An := [{ id := 0, pre := [.clr [1, 2]], ep := [], lin := [], sp := [] }, { id := 1, pre := [.clr [3]], ep := [], lin := [], sp := [] }]
theorem c28 : cC Try.prog Try.f28.ntmps an28 (Try.f28.body.getD .skip) = some A28 := by kernel_rfl
structure H28 (D : Den) (σ : Sig) (F : Nat) : Prop where
  mk ::
abbrev R28 (r : (Int × Int)) : (Nat → V) → Prop := RR Try.prog [.cell 2 49] 0 false (Enc.enc (r : (Int × Int)))
section
variable {D : Den} {σ : Sig} {F : Nat} {r : (Int × Int)}
def w_toIntA2_l1 (F : Nat) (x_1 : (Int × Int))  : Nat → Int → Int → Int → Option (Int × Int)
  | 0, _, _, _ => none
  | k + 1, x_2, x_3, x_6 =>
    bif decide (x_3 < 2) then
      (idx [x_1.1, x_1.2] x_3).bind fun e_9 =>
      (idx [x_2, x_6] x_3).bind fun e_10 =>
      (w_toIntA2_l1 F x_1 k) (bif x_3 == 0 then e_9 else x_2) (w64 (x_3 + 1)) (bif x_3 == 1 then e_9 else x_6)
    else
      some (x_2, x_6)
theorem t_f28_l1 (H : H28 D σ F) (x_1 : (Int × Int))  : ∀ (k : Nat) (x_2 : Int) (x_3 : Int) (x_6 : Int) (s : Nat → V), Facts [(1, (.ref (.bx 1) 0 [] (.agg [(ji x_1.1), (ji x_1.2)]))), (2, (.ref (.bx 2) 0 [] (.agg [(ji 0), (ji 0)]))), (3, (.ref (.bx 3) 0 [] (.agg [(ji x_2), (ji x_6)]))), (4, (ji x_3))] s → w_toIntA2_l1 F x_1 k x_2 x_3 x_6 = some r → Run D σ (R28 r) (.run A28_1 [.lp A28_1, .bk 0, .sq A28_5]) s := by
  intro k
  induction k with
  | zero => intro x_2 x_3 x_6 s _ h; exact nomatch (h : (none : Option _) = some r)
  | succ k ih =>
    intro x_2 x_3 x_6 s hs h
    rw [w_toIntA2_l1] at h
    obtain ⟨h1, h2, h3, h4⟩ := hs
    refine .seq (.seq (rg (gm h4 fun h5 => g1 5 (jb (decide (x_3 < 2))) h5 fun h6 => ?_)))
    refine gq (.nsq (run_cond (t := decide (x_3 < 2)) h6 h (fun h => ?_) (fun h => ?_)))
    · refine .skip (.nsq (.seq (.block (rg (gm h4 fun h9 => gm h4 fun h10 => ?_)))))
      obtain ⟨e_9, E_e_9, h⟩ := bind_some h
      refine gv (.ref (.bx 1) 0 [x_3.toNat] (ji e_9)) (ev_idxA (xs := [x_1.1, x_1.2]) (a := e_9) (n := x_3) (q := []) h1 h10 E_e_9 rfl rfl rfl) fun h11 => ?_
      refine g1 11 (ji e_9) h11 fun h12 => ?_
      obtain ⟨e_10, E_e_10, h⟩ := bind_some h
      refine gv (.ref (.bx 3) 0 [x_3.toNat] (ji e_10)) (ev_idxA (xs := [x_2, x_6]) (a := e_10) (n := x_3) (q := []) h3 h9 E_e_10 rfl rfl rfl) fun h13 => ?_
      refine g_store (ji e_9) (rd_of h13 rfl) (rd_of h12 rfl) (by refine ⟨by decide, by decide, rfl, rfl, rfl, ?_⟩; first | rfl | simp [V.toks, V.tokss, Enc.toks_enc]) ?_
      refine gz [(1, (.ref (.bx 1) 0 [] (.agg [(ji x_1.1), (ji x_1.2)]))), (2, (.ref (.bx 2) 0 [] (.agg [(ji 0), (ji 0)]))), (3, (.ref (.bx 3) 0 [] (.agg [(ji (bif x_3 == 0 then e_9 else x_2)), (ji (bif x_3 == 1 then e_9 else x_6))]))), (4, (ji x_3))] ⟨(keep_mut h1 rfl), (keep_mut h2 rfl), (keep_mut h3 (mut_ix2 E_e_10 rfl)), (keep_mut h4 rfl)⟩ ?_
      rintro s ⟨h1, h2, h3, h4⟩
      refine .nbk (.nsq (rg (gm h4 fun h7 => g1 7 (ji (w64 (x_3 + 1))) h7 fun h8 => ?_)))
      refine gm h8 fun h4 => gq (.nlp ?_)
      exact ih (bif x_3 == 0 then e_9 else x_2) (w64 (x_3 + 1)) (bif x_3 == 1 then e_9 else x_6) _ ⟨h1, h2, h3, h4⟩ h
    refine .exit (.esq (.elp (.ebk (.nsq (.seq (rg (g1 3 (.agg [(ji x_2), (ji x_6)]) h3 fun h14 => ?_)))))))
    refine g_store (.agg [(ji x_2), (ji x_6)]) (rd_of h2 rfl) (rd_of h14 rfl) (by refine ⟨by decide, by decide, rfl, rfl, rfl, ?_⟩; first | rfl | simp [V.toks, V.tokss, Enc.toks_enc]) ?_
    refine gz [(2, (.ref (.bx 2) 0 [] (.agg [(ji x_2), (ji x_6)])))] (keep_mut h2 rfl) ?_
    rintro s h2
    refine .nsq (.ret ?_)
    have hr := Option.some.inj h
    subst hr
    exact rrA (res_cell h2 (by kernel_rfl)) rfl
def w_toIntA2 (F : Nat) (x_1 : (Int × Int)) : Option (Int × Int) :=
  w_toIntA2_l1 F x_1 F 0 0 0
theorem t28 (H : H28 D σ F) (x_1 : (Int × Int)) (s : Nat → V) (hs : Facts [(0, (.agg [(ji x_1.1), (ji x_1.2)]))] s) (h : w_toIntA2 F x_1 = some r) : Run D σ (R28 r) (.run A28 []) s := by
  unfold w_toIntA2 at h
  have h0 := hs
  refine .seq (run_reg ?_)
  refine e_clr ?_
  refine ez [(0, _), (1, _), (2, _)] ⟨(keep_clear (pk := [1, 2]) h0 rfl (map_agg (maps_cons mi (maps_cons mi maps_nil)))), (gone_clear (pk := [1, 2]) (t := 1) rfl), (gone_clear (pk := [1, 2]) (t := 2) rfl)⟩ ?_
  rintro s ⟨h0, h1, h2⟩
  refine g_box (.agg [(ji x_1.1), (ji x_1.2)]) (rd_of h0 rfl) h1 rfl ?_
  refine g_alloc h2 ?_
  refine gq (.nsq (.seq (run_reg ?_)))
  refine e_clr ?_
  refine ez [(1, _), (2, _), (3, _)] ⟨(keep_clear (pk := [3]) rfl rfl (map_bx rfl (map_agg (maps_cons mi (maps_cons mi maps_nil))))), (keep_clear (pk := [3]) rfl rfl (map_bx rfl (map_agg (maps_cons mi (maps_cons mi maps_nil))))), (gone_clear (pk := [3]) (t := 3) rfl)⟩ ?_
  rintro s ⟨h1, h2, h3⟩
  refine g_alloc h3 ?_
  refine gq (.nsq (.seq (.seq (rg (g0 (ji 0) fun h4 => gq (.nsq (.block (.loop ?_))))))))
  exact t_f28_l1 H x_1 F 0 0 0 _ ⟨h1, h2, rfl, h4⟩ h
end
def e28 (F : Nat) : Ent := ent 28 (fun (x : ((Int × Int) × Unit)) => w_toIntA2 F x.1) (fun (r : (Int × Int)) => (Enc.enc (r : (Int × Int)))) 0 false []
theorem p28 {F : Nat} {x0 : (Int × Int)} {r : (Int × Int)} (h : w_toIntA2 F x0 = some r) : (e28 F).den [Enc.enc x0] = some (Enc.enc (r : (Int × Int))) := ent_put (x0, ()) h
theorem o28 {D : Den} {σ : Sig} {F : Nat} (hF : Fits2 Try.prog D σ) (H : H28 D σ F) : (e28 F).Ok Try.prog := by
  refine ok_of (f := 28) (show unk 28 = 28 from rfl) (fun args r h => ?_) ⟨Try.f28, Try.func28, rfl, rfl⟩
  obtain ⟨⟨x0, _⟩, y, rfl, hy, rfl⟩ := da_open h
  exact contract_run hF (by kernel_rfl) Try.func28 rfl c28 (show 1 ≤ Try.f28.ntmps by decide) (t28 H x0 _ rfl hy)
/- loop.example/g01109/laws.toIntA2S -/
def A14_2 : AC := (.cond (.t 11) .skip (.exit 0))
def A14_4 : AC := (.reg [] [(jm 12 4), ((jv 13 (.bin .add (.t 12) (jn 1)))), (jm 4 13)] [])
def A14_3 : AC := (.seq (.block 1 (.reg [] [(jm 14 3), (jm 15 4), (jm 16 0), (jm 17 4), ((jv 18 (.idx (.t 16) (.t 17) 2))), ((jv 19 (.load (.ag [.s, .s]) (.t 18)))), (.mk (some 20) none false (.call (.k (.fn 28 [] [])) [(.t 19)])), ((jv 21 (.idx (.t 14) (.t 15) 2))), (.mk none none false (.store (.ag [.s, .s]) (.t 21) (.t 20)))] [])) A14_4)
def A14_1 : AC := (.seq (.seq (.reg [] [(jm 8 4), (jm 9 0), ((jv 10 (.len (.t 9)))), ((jv 11 (.bin .lss (.t 8) (.t 10))))] []) A14_2) A14_3)
def A14_5 : AC := (.seq (.reg [] [(jm 22 3), (jm 2 22)] [.home 3 2]) .ret)
def A14_8 : AC := (.block 0 (.loop A14_1))
def A14_7 : AC := (.seq (.seq (.reg [] [((jv 4 (.mov (jn 0))))] []) A14_8) A14_5)
def A14_6 : AC := (.seq (.reg [.clr [7]] [(jm 5 0), ((jv 6 (.len (.t 5)))), (.mk (some 7) none false (.mk (.t 6) (.agg [(.int .i64 (.ofNat 0)), (.int .i64 (.ofNat 0))]) (.agg [(.int .i64 (.ofNat 0)), (.int .i64 (.ofNat 0))]))), (jm 3 7)] [.home 7 3]) A14_7)
def A14 : AC := (.seq (.reg [] [((jv 2 (.mov (.k (.sl .nl (.ag [.s, .s]) 0 [])))))] []) A14_6)
def an14 : List An := [{ id := 1, pre := [.clr [7]], ep := [.home 7 3], lin := [], sp := [] }, { id := 6, pre := [], ep := [.home 3 2], lin := [], sp := [] }]
theorem c14 : cC Try.prog Try.f14.ntmps an14 (Try.f14.body.getD .skip) = some A14 := by kernel_rfl
structure H14 (D : Den) (σ : Sig) (F : Nat) : Prop where
  c28 : ∀ (x0 : (Int × Int)) r, w_toIntA2 F x0 = some r → D 28 [Enc.enc x0] = some (Enc.enc (r : (Int × Int)))
  g28 : σ 28 = some (0, false)
abbrev R14 (r : (List (Int × Int))) : (Nat → V) → Prop := RR Try.prog [.tmp 2] 0 false (Enc.enc (r : (List (Int × Int))))
section
variable {D : Den} {σ : Sig} {F : Nat} {r : (List (Int × Int))}
def w_toIntA2S_l1 (F : Nat) (x_1 : (List (Int × Int)))  : Nat → (List (Int × Int)) → Int → Option (List (Int × Int))
  | 0, _, _ => none
  | k + 1, x_6, x_7 =>
    bif decide (x_7 < (x_1.length : Int)) then
      (idx x_1 x_7).bind fun e_11 =>
      (w_toIntA2 F e_11).bind fun r_12 =>
      (idx x_6 x_7).bind fun e_13 =>
      (w_toIntA2S_l1 F x_1 k) (x_6.set x_7.toNat r_12) (w64 (x_7 + 1))
    else
      some x_6
theorem t_f14_l1 (H : H14 D σ F) (x_1 : (List (Int × Int)))  : ∀ (k : Nat) (x_6 : (List (Int × Int))) (x_7 : Int) (s : Nat → V), Facts [(0, (Enc.enc (x_1 : List (Int × Int)))), (2, (.sl .nl (Enc.shp (Int × Int)) 0 [])), (3, (encO (.at 3 []) (.of (x_6 : List (Int × Int))))), (4, (ji x_7))] s → w_toIntA2S_l1 F x_1 k x_6 x_7 = some r → Run D σ (R14 r) (.run A14_1 [.lp A14_1, .bk 0, .sq A14_5]) s := by
  intro k
  induction k with
  | zero => intro x_6 x_7 s _ h; exact nomatch (h : (none : Option _) = some r)
  | succ k ih =>
    intro x_6 x_7 s hs h
    rw [w_toIntA2S_l1] at h
    obtain ⟨h0, h2, h3, h4⟩ := hs
    refine .seq (.seq (rg (gm h4 fun h8 => gm h0 fun h9 => gv (ji (x_1.length : Int)) (ev_len (xs := x_1) h9) fun h10 => ?_)))
    refine g2 8 10 (jb (decide (x_7 < (x_1.length : Int)))) h8 h10 fun h11 => ?_
    refine gq (.nsq (run_cond (t := decide (x_7 < (x_1.length : Int))) h11 h (fun h => ?_) (fun h => ?_)))
    · refine .skip (.nsq (.seq (.block (rg (gm h3 fun h14 => gm h4 fun h15 => gm h0 fun h16 => gm h4 fun h17 => ?_)))))
      obtain ⟨e_11, E_e_11, h⟩ := bind_some h
      refine gv (.ref .sh 0 [] (.agg [(ji e_11.1), (ji e_11.2)])) (ev_idx (t := .sh) (lo := 0) (xs := x_1) h16 h17 E_e_11 rfl rfl) fun h18 => ?_
      refine g1 18 (.agg [(ji e_11.1), (ji e_11.2)]) h18 fun h19 => ?_
      obtain ⟨r_12, E_r_12, h⟩ := bind_some h
      refine g_call (m := 0) (al := false) (r := (Enc.enc (r_12 : (Int × Int)))) [Enc.enc (e_11 : (Int × Int))] (ta_cons (v := (.agg [(ji e_11.1), (ji e_11.2)])) h19 rfl (Enc.erase_enc (e_11 : (Int × Int))) ta_nil) (H.c28 _ _ E_r_12) H.g28 rfl rfl rfl rfl ?_
      obtain ⟨e_13, E_e_13, h⟩ := bind_some h
      refine gv (.ref (.at 3 []) x_7.toNat [] (.agg [(ji e_13.1), (ji e_13.2)])) (ev_idxO (o := (.of x_6)) h14 h15 E_e_13 rfl) fun h21 => ?_
      refine g_store (.agg [(ji r_12.1), (ji r_12.2)]) (rd_of h21 rfl) (rd_of rfl rfl) (by refine ⟨by decide, by decide, rfl, rfl, rfl, ?_⟩; first | rfl | simp [V.toks, V.tokss, Enc.toks_enc]) ?_
      refine gz [(0, (Enc.enc (x_1 : List (Int × Int)))), (2, (.sl .nl (Enc.shp (Int × Int)) 0 [])), (3, _), (4, (ji x_7))] ⟨(keep_mut h0 (Enc.mut_enc _ _ _ _ (x_1 : List (Int × Int)))), (keep_mut h2 rfl), (keep_mut h3 mut_own), (keep_mut h4 rfl)⟩ ?_
      rintro s ⟨h0, h2, h3, h4⟩
      refine .nbk (.nsq (rg (gm h4 fun h12 => g1 12 (ji (w64 (x_7 + 1))) h12 fun h13 => ?_)))
      refine gm h13 fun h4 => gq (.nlp ?_)
      exact ih (x_6.set x_7.toNat r_12) (w64 (x_7 + 1)) _ ⟨h0, h2, h3, h4⟩ h
    refine .exit (.esq (.elp (.ebk (.nsq (.seq (rg (gm h3 fun h22 => gm h22 fun h2 => g_end ?_)))))))
    refine e_home (r := 3) (x := 2) (v := _) h2 rfl (fun s_3 hg_3 => ?_)
    refine ez [(2, (encO (.at 2 []) (.of (x_6 : List (Int × Int)))))] (hg_3 2 _ _ h2 (map_encO (r := 3) (p := []) rfl rfl)) ?_
    rintro s h2
    refine .nsq (.ret ?_)
    have hr := Option.some.inj h
    subst hr
    exact rrA (res_tmp h2) (fin_retF (fin_own (o := .of x_6)) (mine_own rfl))
def w_toIntA2S (F : Nat) (x_1 : (List (Int × Int))) : Option (List (Int × Int)) :=
  (mkN (x_1.length : Int) (0, 0)).bind fun mk_2 =>
  w_toIntA2S_l1 F x_1 F mk_2 0
theorem t14 (H : H14 D σ F) (x_1 : (List (Int × Int))) (s : Nat → V) (hs : Facts [(0, (Enc.enc (x_1 : List (Int × Int))))] s) (h : w_toIntA2S F x_1 = some r) : Run D σ (R14 r) (.run A14 []) s := by
  unfold w_toIntA2S at h
  have h0 := hs
  refine .seq (rg (g0 (.sl .nl (Enc.shp (Int × Int)) 0 []) fun h2 => ?_))
  refine gq (.nsq (.seq (run_reg ?_)))
  refine e_clr ?_
  refine ez [(0, _), (2, _), (7, _)] ⟨(keep_clear (pk := [7]) h0 rfl me), (keep_clear (pk := [7]) h2 rfl rfl), (gone_clear (pk := [7]) (t := 7) rfl)⟩ ?_
  rintro s ⟨h0, h2, h7⟩
  refine gm h0 fun h5 => gv (ji (x_1.length : Int)) (ev_len (xs := x_1) h5) fun h6 => ?_
  obtain ⟨mk_2, E_mk_2, h⟩ := bind_some h
  refine g_mk ((0, 0) : (Int × Int)) h6 rfl h7 E_mk_2 ?_
  refine gm (rfl : (_ : V) = (encO (.at 7 []) (.of (mk_2 : List (Int × Int))))) fun h3 => ?_
  refine g_end ?_
  refine e_home (r := 7) (x := 3) (v := _) h3 rfl (fun s_2 hg_2 => ?_)
  refine ez [(0, (Enc.enc (x_1 : List (Int × Int)))), (2, (.sl .nl (Enc.shp (Int × Int)) 0 [])), (3, (encO (.at 3 []) (.of (mk_2 : List (Int × Int)))))] ⟨(hg_2 0 _ _ h0 me), (hg_2 2 _ (.sl .nl (Enc.shp (Int × Int)) 0 []) h2 rfl), (hg_2 3 _ _ h3 (map_encO (r := 7) (p := []) rfl rfl))⟩ ?_
  rintro s ⟨h0, h2, h3⟩
  refine .nsq (.seq (.seq (rg (g0 (ji 0) fun h4 => gq (.nsq (.block (.loop ?_)))))))
  exact t_f14_l1 H x_1 F mk_2 0 _ ⟨h0, h2, h3, h4⟩ h
end
def e14 (F : Nat) : Ent := ent 14 (fun (x : ((List (Int × Int)) × Unit)) => w_toIntA2S F x.1) (fun (r : (List (Int × Int))) => (Enc.enc (r : (List (Int × Int))))) 0 false []
theorem p14 {F : Nat} {x0 : (List (Int × Int))} {r : (List (Int × Int))} (h : w_toIntA2S F x0 = some r) : (e14 F).den [Enc.enc x0] = some (Enc.enc (r : (List (Int × Int)))) := ent_put (x0, ()) h
theorem o14 {D : Den} {σ : Sig} {F : Nat} (hF : Fits2 Try.prog D σ) (H : H14 D σ F) : (e14 F).Ok Try.prog := by
  refine ok_of (f := 14) (show unk 14 = 14 from rfl) (fun args r h => ?_) ⟨Try.f14, Try.func14, rfl, rfl⟩
  obtain ⟨⟨x0, _⟩, y, rfl, hy, rfl⟩ := da_open h
  exact contract_run hF (by kernel_rfl) Try.func14 rfl c14 (show 1 ≤ Try.f14.ntmps by decide) (t14 H x0 _ rfl hy)
/- loop.example/g01109/laws.toGraph -/
def A6_4 : AC := (.seq (.reg [] [((jv 11 (.load (.ag [.s, .p]) (.t 3)))), (.mk none none false (.store (.ag [.s, .p]) (.t 2) (.t 11)))] []) .ret)
def A6_3 : AC := (.seq (.reg [] [((jv 7 (.fld (.t 1) 1 1))), ((jv 8 (.load .p (.t 7)))), (.mk (some 9) none false (.call (.k (.fn 14 [] [])) [(.t 8)])), ((jv 10 (.fld (.t 3) 1 1))), (.mk none none false (.store .p (.t 10) (.t 9)))] []) A6_4)
def A6_2 : AC := (.seq (.reg [] [((jv 4 (.fld (.t 1) 0 0))), ((jv 5 (.load .s (.t 4)))), ((jv 6 (.fld (.t 3) 0 0))), (.mk none none false (.store .s (.t 6) (.t 5)))] []) A6_3)
def A6_1 : AC := (.seq (.reg [.clr [3]] [(.mk (some 3) none false (.alloc (.agg [(.int .i64 (.ofNat 0)), (.sl .nl (.ag [.s, .s]) 0 [])])))] []) A6_2)
def A6 : AC := (.seq (.reg [.clr [1, 2]] [(.mk (some 1) none false (.box (.t 0))), (.mk (some 2) none false (.alloc (.agg [(.int .i64 (.ofNat 0)), (.sl .nl (.ag [.s, .s]) 0 [])])))] []) A6_1)
def an6 : List An := [{ id := 0, pre := [.clr [1, 2]], ep := [], lin := [], sp := [] }, { id := 1, pre := [.clr [3]], ep := [], lin := [], sp := [] }]
theorem c6 : cC Try.prog Try.f6.ntmps an6 (Try.f6.body.getD .skip) = some A6 := by kernel_rfl
structure H6 (D : Den) (σ : Sig) (F : Nat) : Prop where
  c14 : ∀ (x0 : (List (Int × Int))) r, w_toIntA2S F x0 = some r → D 14 [Enc.enc x0] = some (Enc.enc (r : (List (Int × Int))))
  g14 : σ 14 = some (0, false)
abbrev R6 (r : (Int × (List (Int × Int)))) : (Nat → V) → Prop := RR Try.prog [.cell 2 28] 0 true (Enc.enc (r : (Int × (List (Int × Int)))))
section
variable {D : Den} {σ : Sig} {F : Nat} {r : (Int × (List (Int × Int)))}
def w_toGraph (F : Nat) (x_1 : (Int × (List (Int × Int)))) : Option (Int × (List (Int × Int))) :=
  (w_toIntA2S F x_1.2).bind fun r_2 =>
  some (x_1.1, r_2)
theorem t6 (H : H6 D σ F) (x_1 : (Int × (List (Int × Int)))) (s : Nat → V) (hs : Facts [(0, (.agg [(ji x_1.1), (Enc.enc (x_1.2 : List (Int × Int)))]))] s) (h : w_toGraph F x_1 = some r) : Run D σ (R6 r) (.run A6 []) s := by
  unfold w_toGraph at h
  have h0 := hs
  refine .seq (run_reg ?_)
  refine e_clr ?_
  refine ez [(0, _), (1, _), (2, _)] ⟨(keep_clear (pk := [1, 2]) h0 rfl (map_agg (maps_cons mi (maps_cons me maps_nil)))), (gone_clear (pk := [1, 2]) (t := 1) rfl), (gone_clear (pk := [1, 2]) (t := 2) rfl)⟩ ?_
  rintro s ⟨h0, h1, h2⟩
  refine g_box (.agg [(ji x_1.1), (Enc.enc (x_1.2 : List (Int × Int)))]) (rd_of h0 rfl) h1 rfl ?_
  refine g_alloc h2 ?_
  refine gq (.nsq (.seq (run_reg ?_)))
  refine e_clr ?_
  refine ez [(1, _), (2, _), (3, _)] ⟨(keep_clear (pk := [3]) rfl rfl (map_bx rfl (map_agg (maps_cons mi (maps_cons me maps_nil))))), (keep_clear (pk := [3]) rfl rfl (map_bx rfl (map_agg (maps_cons mi (maps_cons rfl maps_nil))))), (gone_clear (pk := [3]) (t := 3) rfl)⟩ ?_
  rintro s ⟨h1, h2, h3⟩
  refine g_alloc h3 ?_
  refine gq (.nsq (.seq (rg (g1 1 (.ref (.bx 1) 0 [0] (ji x_1.1)) h1 fun h4 => ?_))))
  refine g1 4 (ji x_1.1) h4 fun h5 => ?_
  refine g1 3 (.ref (.bx 3) 0 [0] (ji 0)) (rfl : (_ : V) = (.ref (.bx 3) 0 [] (.agg [(ji 0), (.sl .nl (Enc.shp (Int × Int)) 0 [])]))) fun h6 => ?_
  refine g_store (ji x_1.1) (rd_of h6 rfl) (rd_of h5 rfl) (by refine ⟨by decide, by decide, rfl, rfl, rfl, ?_⟩; first | rfl | simp [V.toks, V.tokss, Enc.toks_enc]) ?_
  refine gz [(1, (.ref (.bx 1) 0 [] (.agg [(ji x_1.1), (Enc.enc (x_1.2 : List (Int × Int)))]))), (2, (.ref (.bx 2) 0 [] (.agg [(ji 0), (.sl .nl (Enc.shp (Int × Int)) 0 [])]))), (3, (.ref (.bx 3) 0 [] (.agg [(ji x_1.1), (.sl .nl (Enc.shp (Int × Int)) 0 [])])))] ⟨(keep_mut h1 (mut_ref_ne rfl rfl (mut_agg (muts_cons rfl (muts_cons (Enc.mut_enc _ _ _ _ (x_1.2 : List (Int × Int))) rfl))))), (keep_mut h2 (mut_ref_ne rfl rfl (mut_agg (muts_cons rfl (muts_cons rfl rfl))))), (keep_mut rfl rfl)⟩ ?_
  rintro s ⟨h1, h2, h3⟩
  refine .nsq (.seq (rg (g1 1 (.ref (.bx 1) 0 [1] (Enc.enc (x_1.2 : List (Int × Int)))) h1 fun h7 => ?_)))
  refine g1 7 (Enc.enc (x_1.2 : List (Int × Int))) h7 fun h8 => ?_
  obtain ⟨r_2, E_r_2, h⟩ := bind_some h
  refine g_call (m := 0) (al := false) (r := (Enc.enc (r_2 : (List (Int × Int))))) [Enc.enc (x_1.2 : (List (Int × Int)))] (ta_cons (v := (Enc.enc (x_1.2 : List (Int × Int)))) h8 rfl (Enc.erase_enc (x_1.2 : (List (Int × Int)))) ta_nil) (H.c14 _ _ E_r_2) H.g14 rfl rfl rfl rfl ?_
  refine g1 3 (.ref (.bx 3) 0 [1] (.sl .nl (Enc.shp (Int × Int)) 0 [])) h3 fun h10 => ?_
  refine g_store (Enc.enc (r_2 : List (Int × Int))) (rd_of h10 rfl) (rd_of rfl rfl) (by refine ⟨by decide, by decide, rfl, rfl, rfl, ?_⟩; first | rfl | simp [V.toks, V.tokss, Enc.toks_enc]) ?_
  refine gz [(2, (.ref (.bx 2) 0 [] (.agg [(ji 0), (.sl .nl (Enc.shp (Int × Int)) 0 [])]))), (3, (.ref (.bx 3) 0 [] (.agg [(ji x_1.1), (Enc.enc (r_2 : List (Int × Int)))])))] ⟨(keep_mut h2 (mut_ref_ne rfl rfl (mut_agg (muts_cons rfl (muts_cons rfl rfl))))), (keep_mut h3 rfl)⟩ ?_
  rintro s ⟨h2, h3⟩
  refine .nsq (.seq (rg (g1 3 (.agg [(ji x_1.1), (Enc.enc (r_2 : List (Int × Int)))]) h3 fun h11 => ?_)))
  refine g_store (.agg [(ji x_1.1), (Enc.enc (r_2 : List (Int × Int)))]) (rd_of h2 rfl) (rd_of h11 rfl) (by refine ⟨by decide, by decide, rfl, rfl, rfl, ?_⟩; first | rfl | simp [V.toks, V.tokss, Enc.toks_enc]) ?_
  refine gz [(2, (.ref (.bx 2) 0 [] (.agg [(ji x_1.1), (Enc.enc (r_2 : List (Int × Int)))])))] (keep_mut h2 rfl) ?_
  rintro s h2
  refine .nsq (.ret ?_)
  have hr := Option.some.inj h
  subst hr
  exact rrA (res_cell h2 (by kernel_rfl)) (fin_ret1 (fin_enc (x := ((x_1.1, r_2) : (Int × (List (Int × Int)))))))
end
def e6 (F : Nat) : Ent := ent 6 (fun (x : ((Int × (List (Int × Int))) × Unit)) => w_toGraph F x.1) (fun (r : (Int × (List (Int × Int)))) => (Enc.enc (r : (Int × (List (Int × Int)))))) 0 true []
theorem p6 {F : Nat} {x0 : (Int × (List (Int × Int)))} {r : (Int × (List (Int × Int)))} (h : w_toGraph F x0 = some r) : (e6 F).den [Enc.enc x0] = some (Enc.enc (r : (Int × (List (Int × Int))))) := ent_put (x0, ()) h
theorem o6 {D : Den} {σ : Sig} {F : Nat} (hF : Fits2 Try.prog D σ) (H : H6 D σ F) : (e6 F).Ok Try.prog := by
  refine ok_of (f := 6) (show unk 6 = 6 from rfl) (fun args r h => ?_) ⟨Try.f6, Try.func6, rfl, rfl⟩
  obtain ⟨⟨x0, _⟩, y, rfl, hy, rfl⟩ := da_open h
  exact contract_run hF (by kernel_rfl) Try.func6 rfl c6 (show 1 ≤ Try.f6.ntmps by decide) (t6 H x0 _ rfl hy)
/- loop.example/g01109/spec.l1In -/
def A23_1 : AC := (.seq (.reg [] [(jm 7 0), (jm 8 1), ((jv 9 (.bin .geq (.t 7) (.t 8)))), (jm 10 9), ((jg 11 10 true (.mov (.t 0)))), ((jg 12 10 true (.mov (.t 2)))), ((jg 13 10 true (.bin .leq (.t 11) (.t 12)))), ((jv 14 (.pick (.t 10) (.t 13) (.k (.bool false))))), (jm 6 14)] []) .ret)
def A23 : AC := (.seq (.reg [] [((jv 6 (.mov (.k (.bool false)))))] []) A23_1)
def an23 : List An := []
theorem c23 : cC Try.prog Try.f23.ntmps an23 (Try.f23.body.getD .skip) = some A23 := by kernel_rfl
structure H23 (D : Den) (σ : Sig) (F : Nat) : Prop where
  mk ::
abbrev R23 (r : Bool) : (Nat → V) → Prop := RR Try.prog [.tmp 6] 0 false (Enc.enc (r : Bool))
section
variable {D : Den} {σ : Sig} {F : Nat} {r : Bool}
def s_l1In (F : Nat) (x_1 : Int) (x_2 : Int) (x_3 : Int) : Option Bool :=
  bif decide (x_1 ≥ x_2) then
    some (decide (x_1 ≤ x_3))
  else
    some false
theorem t23 (H : H23 D σ F) (x_1 : Int) (x_2 : Int) (x_3 : Int) (s : Nat → V) (hs : Facts [(0, (ji x_1)), (1, (ji x_2)), (2, (ji x_3))] s) (h : s_l1In F x_1 x_2 x_3 = some r) : Run D σ (R23 r) (.run A23 []) s := by
  unfold s_l1In at h
  obtain ⟨h0, h1, h2⟩ := hs
  refine .seq (rg (g0 (jb false) fun h6 => ?_))
  refine gq (.nsq (.seq (rg (gm h0 fun h7 => gm h1 fun h8 => g2 7 8 (jb (decide (x_1 ≥ x_2))) h7 h8 fun h9 => ?_))))
  refine gm h9 fun h10 => split_on (c := decide (x_1 ≥ x_2)) h (fun hg4 h => ?_) (fun hg4 h => ?_)
  · refine g_yes (h10.trans (congrArg V.bool hg4)) (gm h0 fun h11 => ?_)
    refine g_yes (h10.trans (congrArg V.bool hg4)) (gm h2 fun h12 => ?_)
    refine g_yes (h10.trans (congrArg V.bool hg4)) (g2 11 12 (jb (decide (x_1 ≤ x_3))) h11 h12 fun h13 => ?_)
    refine g2 10 13 (jb (decide (x_1 ≤ x_3))) (h10.trans (congrArg V.bool hg4)) h13 fun h14 => ?_
    refine gm h14 fun h6 => gq (.nsq (.ret ?_))
    have hr := Option.some.inj h
    subst hr
    exact rrA (res_tmp h6) rfl
  refine g_no (h10.trans (congrArg V.bool hg4)) ?_
  refine g_no (h10.trans (congrArg V.bool hg4)) ?_
  refine g_no (h10.trans (congrArg V.bool hg4)) ?_
  refine g2 10 13 (jb false) (h10.trans (congrArg V.bool hg4)) (rfl : (_ : V) = (.tup [])) fun h14 => ?_
  refine gm h14 fun h6 => gq (.nsq (.ret ?_))
  have hr := Option.some.inj h
  subst hr
  exact rrA (res_tmp h6) rfl
end
def e23 (F : Nat) : Ent := ent 23 (fun (x : (Int × Int × Int × Unit)) => s_l1In F x.1 x.2.1 x.2.2.1) (fun (r : Bool) => (Enc.enc (r : Bool))) 0 false []
theorem p23 {F : Nat} {x0 : Int} {x1 : Int} {x2 : Int} {r : Bool} (h : s_l1In F x0 x1 x2 = some r) : (e23 F).den [Enc.enc x0, Enc.enc x1, Enc.enc x2] = some (Enc.enc (r : Bool)) := ent_put (x0, x1, x2, ()) h
theorem o23 {D : Den} {σ : Sig} {F : Nat} (hF : Fits2 Try.prog D σ) (H : H23 D σ F) : (e23 F).Ok Try.prog := by
  refine ok_of (f := 23) (show unk 23 = 23 from rfl) (fun args r h => ?_) ⟨Try.f23, Try.func23, rfl, rfl⟩
  obtain ⟨⟨x0, x1, x2, _⟩, y, rfl, hy, rfl⟩ := da_open h
  exact contract_run hF (by kernel_rfl) Try.func23 rfl c23 (show 3 ≤ Try.f23.ntmps by decide) (t23 H x0 x1 x2 _ ⟨rfl, rfl, rfl⟩ hy)
/- loop.example/g01109/spec.l2Before -/
def A24_1 : AC := (.seq (.reg [] [((jv 5 (.idxA (.t 2) (jn 0) 2 1))), ((jv 6 (.load .s (.t 5)))), ((jv 7 (.idxA (.t 3) (jn 0) 2 1))), ((jv 8 (.load .s (.t 7)))), ((jv 9 (.bin .lss (.t 6) (.t 8)))), (jm 10 9), ((jg 11 10 false (.idxA (.t 2) (jn 0) 2 1))), ((jg 12 10 false (.load .s (.t 11)))), ((jg 13 10 false (.idxA (.t 3) (jn 0) 2 1))), ((jg 14 10 false (.load .s (.t 13)))), ((jg 15 10 false (.bin .eql (.t 12) (.t 14)))), ((jg 16 10 false (.mov (.t 15)))), ((jg 17 16 true (.idxA (.t 2) (jn 1) 2 1))), ((jg 18 16 true (.load .s (.t 17)))), ((jg 19 16 true (.idxA (.t 3) (jn 1) 2 1))), ((jg 20 16 true (.load .s (.t 19)))), ((jg 21 16 true (.bin .lss (.t 18) (.t 20)))), ((jg 22 10 false (.pick (.t 16) (.t 21) (.k (.bool false))))), ((jv 23 (.pick (.t 10) (.k (.bool true)) (.t 22)))), (jm 4 23)] []) .ret)
def A24 : AC := (.seq (.reg [.clr [2, 3]] [(.mk (some 2) none false (.box (.t 0))), (.mk (some 3) none false (.box (.t 1))), ((jv 4 (.mov (.k (.bool false)))))] []) A24_1)
def an24 : List An := [{ id := 0, pre := [.clr [2, 3]], ep := [], lin := [], sp := [] }]
theorem c24 : cC Try.prog Try.f24.ntmps an24 (Try.f24.body.getD .skip) = some A24 := by kernel_rfl
structure H24 (D : Den) (σ : Sig) (F : Nat) : Prop where
  mk ::
abbrev R24 (r : Bool) : (Nat → V) → Prop := RR Try.prog [.tmp 4] 0 false (Enc.enc (r : Bool))
section
variable {D : Den} {σ : Sig} {F : Nat} {r : Bool}
def s_l2Before (F : Nat) (x_1 : (Int × Int)) (x_2 : (Int × Int)) : Option Bool :=
  bif decide (x_1.1 < x_2.1) then
    some true
  else
    bif (x_1.1 == x_2.1) then
      some (decide (x_1.2 < x_2.2))
    else
      some false
theorem t24 (H : H24 D σ F) (x_1 : (Int × Int)) (x_2 : (Int × Int)) (s : Nat → V) (hs : Facts [(0, (.agg [(ji x_1.1), (ji x_1.2)])), (1, (.agg [(ji x_2.1), (ji x_2.2)]))] s) (h : s_l2Before F x_1 x_2 = some r) : Run D σ (R24 r) (.run A24 []) s := by
  unfold s_l2Before at h
  obtain ⟨h0, h1⟩ := hs
  refine .seq (run_reg ?_)
  refine e_clr ?_
  refine ez [(0, _), (1, _), (2, _), (3, _)] ⟨(keep_clear (pk := [2, 3]) h0 rfl (map_agg (maps_cons mi (maps_cons mi maps_nil)))), (keep_clear (pk := [2, 3]) h1 rfl (map_agg (maps_cons mi (maps_cons mi maps_nil)))), (gone_clear (pk := [2, 3]) (t := 2) rfl), (gone_clear (pk := [2, 3]) (t := 3) rfl)⟩ ?_
  rintro s ⟨h0, h1, h2, h3⟩
  refine g_box (.agg [(ji x_1.1), (ji x_1.2)]) (rd_of h0 rfl) h2 rfl ?_
  refine g_box (.agg [(ji x_2.1), (ji x_2.2)]) (rd_of h1 rfl) h3 rfl ?_
  refine g0 (jb false) fun h4 => ?_
  refine gq (.nsq (.seq (rg (g1 2 (.ref (.bx 2) 0 [0] (ji x_1.1)) (rfl : (_ : V) = (.ref (.bx 2) 0 [] (.agg [(ji x_1.1), (ji x_1.2)]))) fun h5 => ?_))))
  refine g1 5 (ji x_1.1) h5 fun h6 => ?_
  refine g1 3 (.ref (.bx 3) 0 [0] (ji x_2.1)) (rfl : (_ : V) = (.ref (.bx 3) 0 [] (.agg [(ji x_2.1), (ji x_2.2)]))) fun h7 => ?_
  refine g1 7 (ji x_2.1) h7 fun h8 => ?_
  refine g2 6 8 (jb (decide (x_1.1 < x_2.1))) h6 h8 fun h9 => ?_
  refine gm h9 fun h10 => split_on (c := decide (x_1.1 < x_2.1)) h (fun hg6 h => ?_) (fun hg6 h => ?_)
  · refine g_no (h10.trans (congrArg V.bool hg6)) ?_
    refine g_no (h10.trans (congrArg V.bool hg6)) ?_
    refine g_no (h10.trans (congrArg V.bool hg6)) ?_
    refine g_no (h10.trans (congrArg V.bool hg6)) ?_
    refine g_no (h10.trans (congrArg V.bool hg6)) ?_
    refine g_no (h10.trans (congrArg V.bool hg6)) ?_
    refine g_skip rfl ?_
    refine g_skip rfl ?_
    refine g_skip rfl ?_
    refine g_skip rfl ?_
    refine g_skip rfl ?_
    refine g_no (h10.trans (congrArg V.bool hg6)) ?_
    refine g2 10 22 (jb true) (h10.trans (congrArg V.bool hg6)) (rfl : (_ : V) = (.tup [])) fun h23 => ?_
    refine gm h23 fun h4 => gq (.nsq (.ret ?_))
    have hr := Option.some.inj h
    subst hr
    exact rrA (res_tmp h4) rfl
  refine g_yes (h10.trans (congrArg V.bool hg6)) (g1 2 (.ref (.bx 2) 0 [0] (ji x_1.1)) (rfl : (_ : V) = (.ref (.bx 2) 0 [] (.agg [(ji x_1.1), (ji x_1.2)]))) fun h11 => ?_)
  refine g_yes (h10.trans (congrArg V.bool hg6)) (g1 11 (ji x_1.1) h11 fun h12 => ?_)
  refine g_yes (h10.trans (congrArg V.bool hg6)) (g1 3 (.ref (.bx 3) 0 [0] (ji x_2.1)) (rfl : (_ : V) = (.ref (.bx 3) 0 [] (.agg [(ji x_2.1), (ji x_2.2)]))) fun h13 => ?_)
  refine g_yes (h10.trans (congrArg V.bool hg6)) (g1 13 (ji x_2.1) h13 fun h14 => ?_)
  refine g_yes (h10.trans (congrArg V.bool hg6)) (g2 12 14 (jb (x_1.1 == x_2.1)) h12 h14 fun h15 => ?_)
  refine g_yes (h10.trans (congrArg V.bool hg6)) (gm h15 fun h16 => ?_)
  refine split_on (c := (x_1.1 == x_2.1)) h (fun hg12 h => ?_) (fun hg12 h => ?_)
  · refine g_yes (h16.trans (congrArg V.bool hg12)) (g1 2 (.ref (.bx 2) 0 [1] (ji x_1.2)) (rfl : (_ : V) = (.ref (.bx 2) 0 [] (.agg [(ji x_1.1), (ji x_1.2)]))) fun h17 => ?_)
    refine g_yes (h16.trans (congrArg V.bool hg12)) (g1 17 (ji x_1.2) h17 fun h18 => ?_)
    refine g_yes (h16.trans (congrArg V.bool hg12)) (g1 3 (.ref (.bx 3) 0 [1] (ji x_2.2)) (rfl : (_ : V) = (.ref (.bx 3) 0 [] (.agg [(ji x_2.1), (ji x_2.2)]))) fun h19 => ?_)
    refine g_yes (h16.trans (congrArg V.bool hg12)) (g1 19 (ji x_2.2) h19 fun h20 => ?_)
    refine g_yes (h16.trans (congrArg V.bool hg12)) (g2 18 20 (jb (decide (x_1.2 < x_2.2))) h18 h20 fun h21 => ?_)
    refine g_yes (h10.trans (congrArg V.bool hg6)) (g2 16 21 (jb (decide (x_1.2 < x_2.2))) (h16.trans (congrArg V.bool hg12)) h21 fun h22 => ?_)
    refine g2 10 22 (jb (decide (x_1.2 < x_2.2))) (h10.trans (congrArg V.bool hg6)) h22 fun h23 => ?_
    refine gm h23 fun h4 => gq (.nsq (.ret ?_))
    have hr := Option.some.inj h
    subst hr
    exact rrA (res_tmp h4) rfl
  refine g_no (h16.trans (congrArg V.bool hg12)) ?_
  refine g_no (h16.trans (congrArg V.bool hg12)) ?_
  refine g_no (h16.trans (congrArg V.bool hg12)) ?_
  refine g_no (h16.trans (congrArg V.bool hg12)) ?_
  refine g_no (h16.trans (congrArg V.bool hg12)) ?_
  refine g_yes (h10.trans (congrArg V.bool hg6)) (g2 16 21 (jb false) (h16.trans (congrArg V.bool hg12)) (rfl : (_ : V) = (.tup [])) fun h22 => ?_)
  refine g2 10 22 (jb false) (h10.trans (congrArg V.bool hg6)) h22 fun h23 => ?_
  refine gm h23 fun h4 => gq (.nsq (.ret ?_))
  have hr := Option.some.inj h
  subst hr
  exact rrA (res_tmp h4) rfl
end
def e24 (F : Nat) : Ent := ent 24 (fun (x : ((Int × Int) × (Int × Int) × Unit)) => s_l2Before F x.1 x.2.1) (fun (r : Bool) => (Enc.enc (r : Bool))) 0 false []
theorem p24 {F : Nat} {x0 : (Int × Int)} {x1 : (Int × Int)} {r : Bool} (h : s_l2Before F x0 x1 = some r) : (e24 F).den [Enc.enc x0, Enc.enc x1] = some (Enc.enc (r : Bool)) := ent_put (x0, x1, ()) h
theorem o24 {D : Den} {σ : Sig} {F : Nat} (hF : Fits2 Try.prog D σ) (H : H24 D σ F) : (e24 F).Ok Try.prog := by
  refine ok_of (f := 24) (show unk 24 = 24 from rfl) (fun args r h => ?_) ⟨Try.f24, Try.func24, rfl, rfl⟩
  obtain ⟨⟨x0, x1, _⟩, y, rfl, hy, rfl⟩ := da_open h
  exact contract_run hF (by kernel_rfl) Try.func24 rfl c24 (show 2 ≤ Try.f24.ntmps by decide) (t24 H x0 x1 _ ⟨rfl, rfl⟩ hy)
/- loop.example/g01109/spec.l2Good -/
def A10_2 : AC := (.cond (.t 9) .skip (.exit 0))
def A10_5 : AC := (.cond (.t 54) (.seq (.reg [] [((jv 2 (.mov (.k (.bool false)))))] []) .ret) .skip)
def A10_4 : AC := (.seq (.reg [] [((jv 17 (.idxA (.t 4) (jn 0) 2 1))), ((jv 18 (.load .s (.t 17)))), ((jv 19 (.fld (.t 1) 0 0))), ((jv 20 (.load .s (.t 19)))), ((jv 21 (.bin .sub (.t 20) (jn 1)))), (.mk (some 22) none false (.call (.k (.fn 23 [] [])) [(.t 18), (jn 0), (.t 21)])), ((jv 23 (.un .not (.t 22)))), (jm 24 23), ((jg 25 24 false (.idxA (.t 4) (jn 1) 2 1))), ((jg 26 24 false (.load .s (.t 25)))), ((jg 27 24 false (.fld (.t 1) 0 0))), ((jg 28 24 false (.load .s (.t 27)))), ((jg 29 24 false (.bin .sub (.t 28) (jn 1)))), (.mk (some 30) (some (24, false)) false (.call (.k (.fn 23 [] [])) [(.t 26), (jn 0), (.t 29)])), ((jg 31 24 false (.un .not (.t 30)))), ((jv 32 (.pick (.t 24) (.k (.bool true)) (.t 31)))), (jm 33 32), ((jg 34 33 false (.idxA (.t 4) (jn 0) 2 1))), ((jg 35 33 false (.load .s (.t 34)))), ((jg 36 33 false (.idxA (.t 4) (jn 1) 2 1))), ((jg 37 33 false (.load .s (.t 36)))), ((jg 38 33 false (.bin .geq (.t 35) (.t 37)))), ((jv 39 (.pick (.t 33) (.k (.bool true)) (.t 38)))), (jm 40 39), ((jg 41 40 false (.mov (.t 3)))), ((jg 42 40 false (.bin .gtr (.t 41) (jn 0)))), ((jg 43 40 false (.mov (.t 42)))), ((jg 44 43 true (.fld (.t 1) 1 1))), ((jg 45 43 true (.load .p (.t 44)))), ((jg 46 43 true (.mov (.t 3)))), ((jg 47 43 true (.bin .sub (.t 46) (jn 1)))), ((jg 48 43 true (.idx (.t 45) (.t 47) 2))), ((jg 49 43 true (.load (.ag [.s, .s]) (.t 48)))), ((jg 50 43 true (.load (.ag [.s, .s]) (.t 4)))), (.mk (some 51) (some (43, true)) false (.call (.k (.fn 24 [] [])) [(.t 49), (.t 50)])), ((jg 52 43 true (.un .not (.t 51)))), ((jg 53 40 false (.pick (.t 43) (.t 52) (.k (.bool false))))), ((jv 54 (.pick (.t 40) (.k (.bool true)) (.t 53))))] []) A10_5)
def A10_6 : AC := (.reg [] [(jm 10 3), ((jv 11 (.bin .add (.t 10) (jn 1)))), (jm 3 11)] [])
def A10_3 : AC := (.seq (.block 1 (.seq (.reg [.clr [4]] [((jv 12 (.fld (.t 1) 1 1))), ((jv 13 (.load .p (.t 12)))), (jm 14 3), ((jv 15 (.idx (.t 13) (.t 14) 2))), ((jv 16 (.load (.ag [.s, .s]) (.t 15)))), (.mk (some 4) none false (.alloc (.agg [(.int .i64 (.ofNat 0)), (.int .i64 (.ofNat 0))]))), (.mk none none false (.store (.ag [.s, .s]) (.t 4) (.t 16)))] []) A10_4)) A10_6)
def A10_1 : AC := (.seq (.seq (.reg [] [(jm 5 3), ((jv 6 (.fld (.t 1) 1 1))), ((jv 7 (.load .p (.t 6)))), ((jv 8 (.len (.t 7)))), ((jv 9 (.bin .lss (.t 5) (.t 8))))] []) A10_2) A10_3)
def A10_7 : AC := (.seq (.reg [] [((jv 55 (.fld (.t 1) 0 0))), ((jv 56 (.load .s (.t 55)))), (.mk (some 57) none false (.call (.k (.fn 23 [] [])) [(.t 56), (jn 0), (jn 8)])), (jm 2 57)] []) .ret)
def A10_9 : AC := (.block 0 (.loop A10_1))
def A10_8 : AC := (.seq (.seq (.reg [] [((jv 3 (.mov (jn 0))))] []) A10_9) A10_7)
def A10 : AC := (.seq (.reg [.clr [1]] [(.mk (some 1) none false (.box (.t 0))), ((jv 2 (.mov (.k (.bool false)))))] []) A10_8)
def an10 : List An := [{ id := 0, pre := [.clr [1]], ep := [], lin := [], sp := [] }, { id := 4, pre := [.clr [4]], ep := [], lin := [], sp := [] }]
theorem c10 : cC Try.prog Try.f10.ntmps an10 (Try.f10.body.getD .skip) = some A10 := by kernel_rfl
structure H10 (D : Den) (σ : Sig) (F : Nat) : Prop where
  c23 : ∀ (x0 : Int) (x1 : Int) (x2 : Int) r, s_l1In F x0 x1 x2 = some r → D 23 [Enc.enc x0, Enc.enc x1, Enc.enc x2] = some (Enc.enc (r : Bool))
  g23 : σ 23 = some (0, false)
  c24 : ∀ (x0 : (Int × Int)) (x1 : (Int × Int)) r, s_l2Before F x0 x1 = some r → D 24 [Enc.enc x0, Enc.enc x1] = some (Enc.enc (r : Bool))
  g24 : σ 24 = some (0, false)
abbrev R10 (r : Bool) : (Nat → V) → Prop := RR Try.prog [.tmp 2] 0 false (Enc.enc (r : Bool))
section
variable {D : Den} {σ : Sig} {F : Nat} {r : Bool}
def s_l2Good_j1 (F : Nat) (x_1 : (Int × (List (Int × Int)))) (x_12 : Int) (c1 : Int → Option Bool) (x_28 : Bool) : Option Bool :=
  bif x_28 then
    some false
  else
    c1 (w64 (x_12 + 1))
theorem t_f10_j1 (H : H10 D σ F) (x_1 : (Int × (List (Int × Int)))) (x_12 : Int) (c1 : Int → Option Bool) (Hc1 : ∀ (x_12 : Int) (s : Nat → V), Facts [(1, (.ref (.bx 1) 0 [] (.agg [(ji x_1.1), (Enc.enc (x_1.2 : List (Int × Int)))]))), (2, (jb false)), (3, (ji x_12))] s → c1 x_12 = some r → Run D σ (R10 r) (.run A10_1 [.lp A10_1, .bk 0, .sq A10_7]) s) (x_28 : Bool) (s : Nat → V) (hs : Facts [(1, (.ref (.bx 1) 0 [] (.agg [(ji x_1.1), (Enc.enc (x_1.2 : List (Int × Int)))]))), (2, (jb false)), (3, (ji x_12)), (54, (jb x_28))] s) (h : s_l2Good_j1 F x_1 x_12 c1 x_28 = some r) : Run D σ (R10 r) (.nrm [.sq A10_5, .bk 1, .sq A10_6, .lp A10_1, .bk 0, .sq A10_7]) s := by
  unfold s_l2Good_j1 at h
  obtain ⟨h1, h2, h3, h54⟩ := hs
  refine .nsq (run_cond (t := x_28) h54 h (fun h => ?_) (fun h => ?_))
  · refine .seq (rg (g0 (jb false) fun h2 => ?_))
    refine gq (.nsq (.ret ?_))
    have hr := Option.some.inj h
    subst hr
    exact rrA (res_tmp h2) rfl
  refine .skip (.nbk (.nsq (rg (gm h3 fun h10 => g1 10 (ji (w64 (x_12 + 1))) h10 fun h11 => ?_))))
  refine gm h11 fun h3 => gq (.nlp ?_)
  exact Hc1 (w64 (x_12 + 1)) _ ⟨h1, h2, h3⟩ h
def s_l2Good_l1 (F : Nat) (x_1 : (Int × (List (Int × Int))))  : Nat → Int → Option Bool
  | 0, _ => none
  | k + 1, x_12 =>
    bif decide (x_12 < (x_1.2.length : Int)) then
      (idx x_1.2 x_12).bind fun e_23 =>
      (s_l1In F e_23.1 0 (w64 (x_1.1 - 1))).bind fun r_29 =>
      bif (!r_29) then
        s_l2Good_j1 F x_1 x_12 (s_l2Good_l1 F x_1 k) true
      else
        (s_l1In F e_23.2 0 (w64 (x_1.1 - 1))).bind fun r_30 =>
        bif (!r_30) then
          s_l2Good_j1 F x_1 x_12 (s_l2Good_l1 F x_1 k) true
        else
          bif decide (e_23.1 ≥ e_23.2) then
            s_l2Good_j1 F x_1 x_12 (s_l2Good_l1 F x_1 k) true
          else
            bif decide (x_12 > 0) then
              (idx x_1.2 (w64 (x_12 - 1))).bind fun e_31 =>
              (s_l2Before F e_31 e_23).bind fun r_32 =>
              s_l2Good_j1 F x_1 x_12 (s_l2Good_l1 F x_1 k) (!r_32)
            else
              s_l2Good_j1 F x_1 x_12 (s_l2Good_l1 F x_1 k) false
    else
      (s_l1In F x_1.1 0 8).bind fun r_33 =>
      some r_33
theorem t_f10_l1 (H : H10 D σ F) (x_1 : (Int × (List (Int × Int))))  : ∀ (k : Nat) (x_12 : Int) (s : Nat → V), Facts [(1, (.ref (.bx 1) 0 [] (.agg [(ji x_1.1), (Enc.enc (x_1.2 : List (Int × Int)))]))), (2, (jb false)), (3, (ji x_12))] s → s_l2Good_l1 F x_1 k x_12 = some r → Run D σ (R10 r) (.run A10_1 [.lp A10_1, .bk 0, .sq A10_7]) s := by
  intro k
  induction k with
  | zero => intro x_12 s _ h; exact nomatch (h : (none : Option _) = some r)
  | succ k ih =>
    intro x_12 s hs h
    rw [s_l2Good_l1] at h
    obtain ⟨h1, h2, h3⟩ := hs
    refine .seq (.seq (rg (gm h3 fun h5 => g1 1 (.ref (.bx 1) 0 [1] (Enc.enc (x_1.2 : List (Int × Int)))) h1 fun h6 => ?_)))
    refine g1 6 (Enc.enc (x_1.2 : List (Int × Int))) h6 fun h7 => ?_
    refine gv (ji (x_1.2.length : Int)) (ev_len (xs := x_1.2) h7) fun h8 => ?_
    refine g2 5 8 (jb (decide (x_12 < (x_1.2.length : Int)))) h5 h8 fun h9 => ?_
    refine gq (.nsq (run_cond (t := decide (x_12 < (x_1.2.length : Int))) h9 h (fun h => ?_) (fun h => ?_)))
    · refine .skip (.nsq (.seq (.block (.seq (run_reg ?_)))))
      refine e_clr ?_
      refine ez [(1, _), (2, _), (3, _), (4, _)] ⟨(keep_clear (pk := [4]) h1 rfl (map_bx rfl (map_agg (maps_cons mi (maps_cons me maps_nil))))), (keep_clear (pk := [4]) h2 rfl mb), (keep_clear (pk := [4]) h3 rfl mi), (gone_clear (pk := [4]) (t := 4) rfl)⟩ ?_
      rintro s ⟨h1, h2, h3, h4⟩
      refine g1 1 (.ref (.bx 1) 0 [1] (Enc.enc (x_1.2 : List (Int × Int)))) h1 fun h12 => ?_
      refine g1 12 (Enc.enc (x_1.2 : List (Int × Int))) h12 fun h13 => ?_
      refine gm h3 fun h14 => ?_
      obtain ⟨e_23, E_e_23, h⟩ := bind_some h
      refine gv (.ref .sh 0 [] (.agg [(ji e_23.1), (ji e_23.2)])) (ev_idx (t := .sh) (lo := 0) (xs := x_1.2) h13 h14 E_e_23 rfl rfl) fun h15 => ?_
      refine g1 15 (.agg [(ji e_23.1), (ji e_23.2)]) h15 fun h16 => ?_
      refine g_alloc h4 ?_
      refine g_store (.agg [(ji e_23.1), (ji e_23.2)]) (rd_of rfl rfl) (rd_of h16 rfl) (by refine ⟨by decide, by decide, rfl, rfl, rfl, ?_⟩; first | rfl | simp [V.toks, V.tokss, Enc.toks_enc]) ?_
      refine gz [(1, (.ref (.bx 1) 0 [] (.agg [(ji x_1.1), (Enc.enc (x_1.2 : List (Int × Int)))]))), (2, (jb false)), (3, (ji x_12)), (4, (.ref (.bx 4) 0 [] (.agg [(ji e_23.1), (ji e_23.2)])))] ⟨(keep_mut h1 (mut_ref_ne rfl rfl (mut_agg (muts_cons rfl (muts_cons (Enc.mut_enc _ _ _ _ (x_1.2 : List (Int × Int))) rfl))))), (keep_mut h2 rfl), (keep_mut h3 rfl), (keep_mut rfl rfl)⟩ ?_
      rintro s ⟨h1, h2, h3, h4⟩
      refine .nsq (.seq (rg (g1 4 (.ref (.bx 4) 0 [0] (ji e_23.1)) h4 fun h17 => ?_)))
      refine g1 17 (ji e_23.1) h17 fun h18 => ?_
      refine g1 1 (.ref (.bx 1) 0 [0] (ji x_1.1)) h1 fun h19 => ?_
      refine g1 19 (ji x_1.1) h19 fun h20 => ?_
      refine g1 20 (ji (w64 (x_1.1 - 1))) h20 fun h21 => ?_
      obtain ⟨r_29, E_r_29, h⟩ := bind_some h
      refine g_call (m := 0) (al := false) (r := (Enc.enc (r_29 : Bool))) [Enc.enc (e_23.1 : Int), Enc.enc (0 : Int), Enc.enc (w64 (x_1.1 - 1) : Int)] (ta_cons (v := (ji e_23.1)) h18 rfl rfl (ta_cons (v := (ji 0)) rfl rfl rfl (ta_cons (v := (ji (w64 (x_1.1 - 1)))) h21 rfl rfl ta_nil))) (H.c23 _ _ _ _ E_r_29) H.g23 rfl rfl rfl rfl ?_
      refine g1 22 (jb (!r_29)) (rfl : (_ : V) = (jb r_29)) fun h23 => ?_
      refine gm h23 fun h24 => split_on (c := (!r_29)) h (fun hg8 h => ?_) (fun hg8 h => ?_)
      · refine g_no (h24.trans (congrArg V.bool hg8)) ?_
        refine g_no (h24.trans (congrArg V.bool hg8)) ?_
        refine g_no (h24.trans (congrArg V.bool hg8)) ?_
        refine g_no (h24.trans (congrArg V.bool hg8)) ?_
        refine g_no (h24.trans (congrArg V.bool hg8)) ?_
        refine g_no (h24.trans (congrArg V.bool hg8)) ?_
        refine g_no (h24.trans (congrArg V.bool hg8)) ?_
        refine g2 24 31 (jb true) (h24.trans (congrArg V.bool hg8)) (rfl : (_ : V) = (.tup [])) fun h32 => ?_
        refine gm h32 fun h33 => g_no h33 ?_
        refine g_no h33 ?_
        refine g_no h33 ?_
        refine g_no h33 ?_
        refine g_no h33 ?_
        refine g2 33 38 (jb true) h33 (rfl : (_ : V) = (.tup [])) fun h39 => ?_
        refine gm h39 fun h40 => g_no h40 ?_
        refine g_no h40 ?_
        refine g_no h40 ?_
        refine g_skip rfl ?_
        refine g_skip rfl ?_
        refine g_skip rfl ?_
        refine g_skip rfl ?_
        refine g_skip rfl ?_
        refine g_skip rfl ?_
        refine g_skip rfl ?_
        refine g_skip rfl ?_
        refine g_skip rfl ?_
        refine g_no h40 ?_
        refine g2 40 53 (jb true) h40 (rfl : (_ : V) = (.tup [])) fun h54 => ?_
        refine gz [(1, _), (2, _), (3, _), (54, _)] ⟨h1, h2, h3, h54⟩ ?_
        rintro s ⟨h1, h2, h3, h54⟩
        exact t_f10_j1 H x_1 x_12 (s_l2Good_l1 F x_1 k) ih true _ ⟨h1, h2, h3, h54⟩ h
      refine g_yes (h24.trans (congrArg V.bool hg8)) (g1 4 (.ref (.bx 4) 0 [1] (ji e_23.2)) h4 fun h25 => ?_)
      refine g_yes (h24.trans (congrArg V.bool hg8)) (g1 25 (ji e_23.2) h25 fun h26 => ?_)
      refine g_yes (h24.trans (congrArg V.bool hg8)) (g1 1 (.ref (.bx 1) 0 [0] (ji x_1.1)) h1 fun h27 => ?_)
      refine g_yes (h24.trans (congrArg V.bool hg8)) (g1 27 (ji x_1.1) h27 fun h28 => ?_)
      refine g_yes (h24.trans (congrArg V.bool hg8)) (g1 28 (ji (w64 (x_1.1 - 1))) h28 fun h29 => ?_)
      obtain ⟨r_30, E_r_30, h⟩ := bind_some h
      refine g_yes (h24.trans (congrArg V.bool hg8)) (g_call (m := 0) (al := false) (r := (Enc.enc (r_30 : Bool))) [Enc.enc (e_23.2 : Int), Enc.enc (0 : Int), Enc.enc (w64 (x_1.1 - 1) : Int)] (ta_cons (v := (ji e_23.2)) h26 rfl rfl (ta_cons (v := (ji 0)) rfl rfl rfl (ta_cons (v := (ji (w64 (x_1.1 - 1)))) h29 rfl rfl ta_nil))) (H.c23 _ _ _ _ E_r_30) H.g23 rfl rfl rfl rfl ?_)
      refine g_yes (h24.trans (congrArg V.bool hg8)) (g1 30 (jb (!r_30)) (rfl : (_ : V) = (jb r_30)) fun h31 => ?_)
      refine g2 24 31 (jb (!r_30)) (h24.trans (congrArg V.bool hg8)) h31 fun h32 => ?_
      refine gm h32 fun h33 => split_on (c := (!r_30)) h (fun hg17 h => ?_) (fun hg17 h => ?_)
      · refine g_no (h33.trans (congrArg V.bool hg17)) ?_
        refine g_no (h33.trans (congrArg V.bool hg17)) ?_
        refine g_no (h33.trans (congrArg V.bool hg17)) ?_
        refine g_no (h33.trans (congrArg V.bool hg17)) ?_
        refine g_no (h33.trans (congrArg V.bool hg17)) ?_
        refine g2 33 38 (jb true) (h33.trans (congrArg V.bool hg17)) (rfl : (_ : V) = (.tup [])) fun h39 => ?_
        refine gm h39 fun h40 => g_no h40 ?_
        refine g_no h40 ?_
        refine g_no h40 ?_
        refine g_skip rfl ?_
        refine g_skip rfl ?_
        refine g_skip rfl ?_
        refine g_skip rfl ?_
        refine g_skip rfl ?_
        refine g_skip rfl ?_
        refine g_skip rfl ?_
        refine g_skip rfl ?_
        refine g_skip rfl ?_
        refine g_no h40 ?_
        refine g2 40 53 (jb true) h40 (rfl : (_ : V) = (.tup [])) fun h54 => ?_
        refine gz [(1, _), (2, _), (3, _), (54, _)] ⟨h1, h2, h3, h54⟩ ?_
        rintro s ⟨h1, h2, h3, h54⟩
        exact t_f10_j1 H x_1 x_12 (s_l2Good_l1 F x_1 k) ih true _ ⟨h1, h2, h3, h54⟩ h
      refine g_yes (h33.trans (congrArg V.bool hg17)) (g1 4 (.ref (.bx 4) 0 [0] (ji e_23.1)) h4 fun h34 => ?_)
      refine g_yes (h33.trans (congrArg V.bool hg17)) (g1 34 (ji e_23.1) h34 fun h35 => ?_)
      refine g_yes (h33.trans (congrArg V.bool hg17)) (g1 4 (.ref (.bx 4) 0 [1] (ji e_23.2)) h4 fun h36 => ?_)
      refine g_yes (h33.trans (congrArg V.bool hg17)) (g1 36 (ji e_23.2) h36 fun h37 => ?_)
      refine g_yes (h33.trans (congrArg V.bool hg17)) (g2 35 37 (jb (decide (e_23.1 ≥ e_23.2))) h35 h37 fun h38 => ?_)
      refine g2 33 38 (jb (decide (e_23.1 ≥ e_23.2))) (h33.trans (congrArg V.bool hg17)) h38 fun h39 => ?_
      refine gm h39 fun h40 => split_on (c := decide (e_23.1 ≥ e_23.2)) h (fun hg24 h => ?_) (fun hg24 h => ?_)
      · refine g_no (h40.trans (congrArg V.bool hg24)) ?_
        refine g_no (h40.trans (congrArg V.bool hg24)) ?_
        refine g_no (h40.trans (congrArg V.bool hg24)) ?_
        refine g_skip rfl ?_
        refine g_skip rfl ?_
        refine g_skip rfl ?_
        refine g_skip rfl ?_
        refine g_skip rfl ?_
        refine g_skip rfl ?_
        refine g_skip rfl ?_
        refine g_skip rfl ?_
        refine g_skip rfl ?_
        refine g_no (h40.trans (congrArg V.bool hg24)) ?_
        refine g2 40 53 (jb true) (h40.trans (congrArg V.bool hg24)) (rfl : (_ : V) = (.tup [])) fun h54 => ?_
        refine gz [(1, _), (2, _), (3, _), (54, _)] ⟨h1, h2, h3, h54⟩ ?_
        rintro s ⟨h1, h2, h3, h54⟩
        exact t_f10_j1 H x_1 x_12 (s_l2Good_l1 F x_1 k) ih true _ ⟨h1, h2, h3, h54⟩ h
      refine g_yes (h40.trans (congrArg V.bool hg24)) (gm h3 fun h41 => ?_)
      refine g_yes (h40.trans (congrArg V.bool hg24)) (g1 41 (jb (decide (x_12 > 0))) h41 fun h42 => ?_)
      refine g_yes (h40.trans (congrArg V.bool hg24)) (gm h42 fun h43 => ?_)
      refine split_on (c := decide (x_12 > 0)) h (fun hg27 h => ?_) (fun hg27 h => ?_)
      · refine g_yes (h43.trans (congrArg V.bool hg27)) (g1 1 (.ref (.bx 1) 0 [1] (Enc.enc (x_1.2 : List (Int × Int)))) h1 fun h44 => ?_)
        refine g_yes (h43.trans (congrArg V.bool hg27)) (g1 44 (Enc.enc (x_1.2 : List (Int × Int))) h44 fun h45 => ?_)
        refine g_yes (h43.trans (congrArg V.bool hg27)) (gm h3 fun h46 => ?_)
        refine g_yes (h43.trans (congrArg V.bool hg27)) (g1 46 (ji (w64 (x_12 - 1))) h46 fun h47 => ?_)
        obtain ⟨e_31, E_e_31, h⟩ := bind_some h
        refine g_yes (h43.trans (congrArg V.bool hg27)) (gv (.ref .sh 0 [] (.agg [(ji e_31.1), (ji e_31.2)])) (ev_idx (t := .sh) (lo := 0) (xs := x_1.2) h45 h47 E_e_31 rfl rfl) fun h48 => ?_)
        refine g_yes (h43.trans (congrArg V.bool hg27)) (g1 48 (.agg [(ji e_31.1), (ji e_31.2)]) h48 fun h49 => ?_)
        refine g_yes (h43.trans (congrArg V.bool hg27)) (g1 4 (.agg [(ji e_23.1), (ji e_23.2)]) h4 fun h50 => ?_)
        obtain ⟨r_32, E_r_32, h⟩ := bind_some h
        refine g_yes (h43.trans (congrArg V.bool hg27)) (g_call (m := 0) (al := false) (r := (Enc.enc (r_32 : Bool))) [Enc.enc (e_31 : (Int × Int)), Enc.enc (e_23 : (Int × Int))] (ta_cons (v := (.agg [(ji e_31.1), (ji e_31.2)])) h49 rfl (Enc.erase_enc (e_31 : (Int × Int))) (ta_cons (v := (.agg [(ji e_23.1), (ji e_23.2)])) h50 rfl (Enc.erase_enc (e_23 : (Int × Int))) ta_nil)) (H.c24 _ _ _ E_r_32) H.g24 rfl rfl rfl rfl ?_)
        refine g_yes (h43.trans (congrArg V.bool hg27)) (g1 51 (jb (!r_32)) (rfl : (_ : V) = (jb r_32)) fun h52 => ?_)
        refine g_yes (h40.trans (congrArg V.bool hg24)) (g2 43 52 (jb (!r_32)) (h43.trans (congrArg V.bool hg27)) h52 fun h53 => ?_)
        refine g2 40 53 (jb (!r_32)) (h40.trans (congrArg V.bool hg24)) h53 fun h54 => ?_
        refine gz [(1, _), (2, _), (3, _), (54, _)] ⟨h1, h2, h3, h54⟩ ?_
        rintro s ⟨h1, h2, h3, h54⟩
        exact t_f10_j1 H x_1 x_12 (s_l2Good_l1 F x_1 k) ih (!r_32) _ ⟨h1, h2, h3, h54⟩ h
      refine g_no (h43.trans (congrArg V.bool hg27)) ?_
      refine g_no (h43.trans (congrArg V.bool hg27)) ?_
      refine g_no (h43.trans (congrArg V.bool hg27)) ?_
      refine g_no (h43.trans (congrArg V.bool hg27)) ?_
      refine g_no (h43.trans (congrArg V.bool hg27)) ?_
      refine g_no (h43.trans (congrArg V.bool hg27)) ?_
      refine g_no (h43.trans (congrArg V.bool hg27)) ?_
      refine g_no (h43.trans (congrArg V.bool hg27)) ?_
      refine g_no (h43.trans (congrArg V.bool hg27)) ?_
      refine g_yes (h40.trans (congrArg V.bool hg24)) (g2 43 52 (jb false) (h43.trans (congrArg V.bool hg27)) (rfl : (_ : V) = (.tup [])) fun h53 => ?_)
      refine g2 40 53 (jb false) (h40.trans (congrArg V.bool hg24)) h53 fun h54 => ?_
      refine gz [(1, _), (2, _), (3, _), (54, _)] ⟨h1, h2, h3, h54⟩ ?_
      rintro s ⟨h1, h2, h3, h54⟩
      exact t_f10_j1 H x_1 x_12 (s_l2Good_l1 F x_1 k) ih false _ ⟨h1, h2, h3, h54⟩ h
    refine .exit (.esq (.elp (.ebk (.nsq (.seq (rg (g1 1 (.ref (.bx 1) 0 [0] (ji x_1.1)) h1 fun h55 => ?_)))))))
    refine g1 55 (ji x_1.1) h55 fun h56 => ?_
    obtain ⟨r_33, E_r_33, h⟩ := bind_some h
    refine g_call (m := 0) (al := false) (r := (Enc.enc (r_33 : Bool))) [Enc.enc (x_1.1 : Int), Enc.enc (0 : Int), Enc.enc (8 : Int)] (ta_cons (v := (ji x_1.1)) h56 rfl rfl (ta_cons (v := (ji 0)) rfl rfl rfl (ta_cons (v := (ji 8)) rfl rfl rfl ta_nil))) (H.c23 _ _ _ _ E_r_33) H.g23 rfl rfl rfl rfl ?_
    refine gm (rfl : (_ : V) = (jb r_33)) fun h2 => ?_
    refine gq (.nsq (.ret ?_))
    have hr := Option.some.inj h
    subst hr
    exact rrA (res_tmp h2) rfl
def s_l2Good (F : Nat) (x_1 : (Int × (List (Int × Int)))) : Option Bool :=
  s_l2Good_l1 F x_1 F 0
theorem t10 (H : H10 D σ F) (x_1 : (Int × (List (Int × Int)))) (s : Nat → V) (hs : Facts [(0, (.agg [(ji x_1.1), (Enc.enc (x_1.2 : List (Int × Int)))]))] s) (h : s_l2Good F x_1 = some r) : Run D σ (R10 r) (.run A10 []) s := by
  unfold s_l2Good at h
  have h0 := hs
  refine .seq (run_reg ?_)
  refine e_clr ?_
  refine ez [(0, _), (1, _)] ⟨(keep_clear (pk := [1]) h0 rfl (map_agg (maps_cons mi (maps_cons me maps_nil)))), (gone_clear (pk := [1]) (t := 1) rfl)⟩ ?_
  rintro s ⟨h0, h1⟩
  refine g_box (.agg [(ji x_1.1), (Enc.enc (x_1.2 : List (Int × Int)))]) (rd_of h0 rfl) h1 rfl ?_
  refine g0 (jb false) fun h2 => ?_
  refine gq (.nsq (.seq (.seq (rg (g0 (ji 0) fun h3 => gq (.nsq (.block (.loop ?_))))))))
  exact t_f10_l1 H x_1 F 0 _ ⟨rfl, h2, h3⟩ h
end
def e10 (F : Nat) : Ent := ent 10 (fun (x : ((Int × (List (Int × Int))) × Unit)) => s_l2Good F x.1) (fun (r : Bool) => (Enc.enc (r : Bool))) 0 false []
theorem p10 {F : Nat} {x0 : (Int × (List (Int × Int)))} {r : Bool} (h : s_l2Good F x0 = some r) : (e10 F).den [Enc.enc x0] = some (Enc.enc (r : Bool)) := ent_put (x0, ()) h
theorem o10 {D : Den} {σ : Sig} {F : Nat} (hF : Fits2 Try.prog D σ) (H : H10 D σ F) : (e10 F).Ok Try.prog := by
  refine ok_of (f := 10) (show unk 10 = 10 from rfl) (fun args r h => ?_) ⟨Try.f10, Try.func10, rfl, rfl⟩
  obtain ⟨⟨x0, _⟩, y, rfl, hy, rfl⟩ := da_open h
  exact contract_run hF (by kernel_rfl) Try.func10 rfl c10 (show 1 ≤ Try.f10.ntmps by decide) (t10 H x0 _ rfl hy)
/- loop.example/g01109/spec.l2Bits -/
def A11_2 : AC := (.cond (.t 10) .skip (.exit 0))
def A11_4 : AC := (.cond (.t 17) (.reg [.clr [20, 21]] [(jm 18 5), (jm 19 6), (.mk (some 20) none false (.lit (.int .i64 (.ofNat 0)) 1 [(0, 0, (.t 19))])), (.mk (some 21) none false (.app .s (.t 18) (.t 20))), (jm 5 21)] [.home 21 5]) .skip)
def A11_5 : AC := (.reg [] [(jm 11 6), ((jv 12 (.bin .add (.t 11) (jn 1)))), (jm 6 12)] [])
def A11_3 : AC := (.seq (.block 1 (.seq (.reg [] [(jm 13 1), (jm 14 6), ((jv 15 (.bin .shr (.t 13) (.t 14)))), ((jv 16 (.bin .and (.t 15) (jn 1)))), ((jv 17 (.bin .eql (.t 16) (jn 1))))] []) A11_4)) A11_5)
def A11_1 : AC := (.seq (.seq (.reg [] [(jm 8 6), (jm 9 0), ((jv 10 (.bin .lss (.t 8) (.t 9))))] []) A11_2) A11_3)
def A11_6 : AC := (.seq (.reg [] [(jm 22 5), (jm 4 22)] [.home 5 4]) .ret)
def A11_9 : AC := (.block 0 (.loop A11_1))
def A11_8 : AC := (.seq (.seq (.reg [] [((jv 6 (.mov (jn 0))))] []) A11_9) A11_6)
def A11_7 : AC := (.seq (.reg [.clr [7]] [(.mk (some 7) none false (.lit (.int .i64 (.ofNat 0)) 0 [])), (jm 5 7)] [.home 7 5]) A11_8)
def A11 : AC := (.seq (.reg [] [((jv 4 (.mov (.k (.sl .nl .s 0 [])))))] []) A11_7)
def an11 : List An := [{ id := 1, pre := [.clr [7]], ep := [.home 7 5], lin := [], sp := [] }, { id := 6, pre := [.clr [20, 21]], ep := [.home 21 5], lin := [], sp := [] }, { id := 7, pre := [], ep := [.home 5 4], lin := [], sp := [] }]
theorem c11 : cC Try.prog Try.f11.ntmps an11 (Try.f11.body.getD .skip) = some A11 := by kernel_rfl
structure H11 (D : Den) (σ : Sig) (F : Nat) : Prop where
  mk ::
abbrev R11 (r : (List Int)) : (Nat → V) → Prop := RR Try.prog [.tmp 4] 0 false (Enc.enc (r : (List Int)))
section
variable {D : Den} {σ : Sig} {F : Nat} {r : (List Int)}
def s_l2Bits_j1 (F : Nat) (x_1 : Int) (x_2 : Int) (x_8 : Int) (c1 : (List Int) → Int → Option (List Int)) (x_15 : (List Int)) : Option (List Int) :=
  c1 x_15 (w64 (x_8 + 1))
theorem t_f11_j1 (H : H11 D σ F) (x_1 : Int) (x_2 : Int) (x_8 : Int) (c1 : (List Int) → Int → Option (List Int)) (Hc1 : ∀ (x_7 : (List Int)) (x_8 : Int) (s : Nat → V), Facts [(0, (ji x_1)), (1, (ji x_2)), (4, (.sl .nl (Enc.shp Int) 0 [])), (5, (oI 5 [] (.of x_7))), (6, (ji x_8))] s → c1 x_7 x_8 = some r → Run D σ (R11 r) (.run A11_1 [.lp A11_1, .bk 0, .sq A11_6]) s) (x_15 : (List Int)) (s : Nat → V) (hs : Facts [(0, (ji x_1)), (1, (ji x_2)), (4, (.sl .nl (Enc.shp Int) 0 [])), (5, (oI 5 [] (.of x_15))), (6, (ji x_8))] s) (h : s_l2Bits_j1 F x_1 x_2 x_8 c1 x_15 = some r) : Run D σ (R11 r) (.nrm [.bk 1, .sq A11_5, .lp A11_1, .bk 0, .sq A11_6]) s := by
  unfold s_l2Bits_j1 at h
  obtain ⟨h0, h1, h4, h5, h6⟩ := hs
  refine .nbk (.nsq (rg (gm h6 fun h11 => g1 11 (ji (w64 (x_8 + 1))) h11 fun h12 => ?_)))
  refine gm h12 fun h6 => gq (.nlp ?_)
  exact Hc1 x_15 (w64 (x_8 + 1)) _ ⟨h0, h1, h4, h5, h6⟩ h
def s_l2Bits_l1 (F : Nat) (x_1 : Int) (x_2 : Int)  : Nat → (List Int) → Int → Option (List Int)
  | 0, _, _ => none
  | k + 1, x_7, x_8 =>
    bif decide (x_8 < x_1) then
      (shrI .i64 x_2 x_8).bind fun q_13 =>
      bif ((iand .i64 q_13 1) == 1) then
        (appL x_7 [x_8]).bind fun ap_16 =>
        s_l2Bits_j1 F x_1 x_2 x_8 (s_l2Bits_l1 F x_1 x_2 k) ap_16
      else
        s_l2Bits_j1 F x_1 x_2 x_8 (s_l2Bits_l1 F x_1 x_2 k) x_7
    else
      some x_7
theorem t_f11_l1 (H : H11 D σ F) (x_1 : Int) (x_2 : Int)  : ∀ (k : Nat) (x_7 : (List Int)) (x_8 : Int) (s : Nat → V), Facts [(0, (ji x_1)), (1, (ji x_2)), (4, (.sl .nl (Enc.shp Int) 0 [])), (5, (oI 5 [] (.of x_7))), (6, (ji x_8))] s → s_l2Bits_l1 F x_1 x_2 k x_7 x_8 = some r → Run D σ (R11 r) (.run A11_1 [.lp A11_1, .bk 0, .sq A11_6]) s := by
  intro k
  induction k with
  | zero => intro x_7 x_8 s _ h; exact nomatch (h : (none : Option _) = some r)
  | succ k ih =>
    intro x_7 x_8 s hs h
    rw [s_l2Bits_l1] at h
    obtain ⟨h0, h1, h4, h5, h6⟩ := hs
    refine .seq (.seq (rg (gm h6 fun h8 => gm h0 fun h9 => g2 8 9 (jb (decide (x_8 < x_1))) h8 h9 fun h10 => ?_)))
    refine gq (.nsq (run_cond (t := decide (x_8 < x_1)) h10 h (fun h => ?_) (fun h => ?_)))
    · refine .skip (.nsq (.seq (.block (.seq (rg (gm h1 fun h13 => gm h6 fun h14 => ?_))))))
      obtain ⟨q_13, E_q_13, h⟩ := bind_some h
      refine gv (ji q_13) (ev_shr h13 h14 E_q_13) fun h15 => ?_
      refine g1 15 (ji (iand .i64 q_13 1)) h15 fun h16 => ?_
      refine g1 16 (jb ((iand .i64 q_13 1) == 1)) h16 fun h17 => ?_
      refine gq (.nsq (run_cond (t := ((iand .i64 q_13 1) == 1)) h17 h (fun h => ?_) (fun h => ?_)))
      · refine run_reg ?_
        refine e_clr ?_
        refine ez [(0, _), (1, _), (4, _), (5, _), (6, _), (20, _), (21, _)] ⟨(keep_clear (pk := [20, 21]) h0 rfl mi), (keep_clear (pk := [20, 21]) h1 rfl mi), (keep_clear (pk := [20, 21]) h4 rfl rfl), (keep_clear (pk := [20, 21]) h5 rfl (map_encO (r := 5) (p := []) rfl rfl)), (keep_clear (pk := [20, 21]) h6 rfl mi), (gone_clear (pk := [20, 21]) (t := 20) rfl), (gone_clear (pk := [20, 21]) (t := 21) rfl)⟩ ?_
        rintro s ⟨h0, h1, h4, h5, h6, h20, h21⟩
        refine gm h5 fun h18 => gm h6 fun h19 => g_litL [(19, (ji x_8))] [Enc.enc (x_8 : Int)] h19 rfl rfl h20 ?_
        obtain ⟨ap_16, E_ap_16, h⟩ := bind_some h
        refine g_app (q := 5) (p := []) (o := (.of (x_7 : List Int))) (ys := ([x_8] : List Int)) (t2 := (.at 20 [])) (lo2 := 0) h18 rfl rfl h21 (appN_L (o := (.of (x_7 : List Int))) E_ap_16 trivial) (fun s_19 ha_19 => ?_)
        refine gm (rfl : (_ : V) = (oI 21 [] (.of ap_16))) fun h5 => ?_
        refine g_end ?_
        refine e_home (r := 21) (x := 5) (v := _) h5 rfl (fun s_20 hg_20 => ?_)
        refine ez [(0, (ji x_1)), (1, (ji x_2)), (4, (.sl .nl (Enc.shp Int) 0 [])), (5, (oI 5 [] (.of ap_16))), (6, (ji x_8))] ⟨(hg_20 0 _ _ (show s_19 0 = (ji x_1) from keep_app ha_19 h0 mi) mi), (hg_20 1 _ _ (show s_19 1 = (ji x_2) from keep_app ha_19 h1 mi) mi), (hg_20 4 _ (.sl .nl (Enc.shp Int) 0 []) (show s_19 4 = (.sl .nl (Enc.shp Int) 0 []) from keep_app ha_19 h4 rfl) rfl), (hg_20 5 _ _ h5 (map_encO (r := 21) (p := []) rfl rfl)), (hg_20 6 _ _ (show s_19 6 = (ji x_8) from keep_app ha_19 h6 mi) mi)⟩ ?_
        rintro s ⟨h0, h1, h4, h5, h6⟩
        exact t_f11_j1 H x_1 x_2 x_8 (s_l2Bits_l1 F x_1 x_2 k) ih ap_16 _ ⟨h0, h1, h4, h5, h6⟩ h
      refine .skip ?_
      exact t_f11_j1 H x_1 x_2 x_8 (s_l2Bits_l1 F x_1 x_2 k) ih x_7 _ ⟨h0, h1, h4, h5, h6⟩ h
    refine .exit (.esq (.elp (.ebk (.nsq (.seq (rg (gm h5 fun h22 => gm h22 fun h4 => g_end ?_)))))))
    refine e_home (r := 5) (x := 4) (v := _) h4 rfl (fun s_21 hg_21 => ?_)
    refine ez [(4, (oI 4 [] (.of x_7)))] (hg_21 4 _ _ h4 (map_encO (r := 5) (p := []) rfl rfl)) ?_
    rintro s h4
    refine .nsq (.ret ?_)
    have hr := Option.some.inj h
    subst hr
    exact rrA (res_tmp h4) (fin_retF (fin_own (o := .of x_7)) (mine_own rfl))
def s_l2Bits (F : Nat) (x_1 : Int) (x_2 : Int) : Option (List Int) :=
  s_l2Bits_l1 F x_1 x_2 F [] 0
theorem t11 (H : H11 D σ F) (x_1 : Int) (x_2 : Int) (s : Nat → V) (hs : Facts [(0, (ji x_1)), (1, (ji x_2))] s) (h : s_l2Bits F x_1 x_2 = some r) : Run D σ (R11 r) (.run A11 []) s := by
  unfold s_l2Bits at h
  obtain ⟨h0, h1⟩ := hs
  refine .seq (rg (g0 (.sl .nl (Enc.shp Int) 0 []) fun h4 => ?_))
  refine gq (.nsq (.seq (run_reg ?_)))
  refine e_clr ?_
  refine ez [(0, _), (1, _), (4, _), (7, _)] ⟨(keep_clear (pk := [7]) h0 rfl mi), (keep_clear (pk := [7]) h1 rfl mi), (keep_clear (pk := [7]) h4 rfl rfl), (gone_clear (pk := [7]) (t := 7) rfl)⟩ ?_
  rintro s ⟨h0, h1, h4, h7⟩
  refine g_litL [] [] trivial rfl rfl h7 ?_
  refine gm (rfl : (_ : V) = (oI 7 [] (.of []))) fun h5 => ?_
  refine g_end ?_
  refine e_home (r := 7) (x := 5) (v := _) h5 rfl (fun s_2 hg_2 => ?_)
  refine ez [(0, (ji x_1)), (1, (ji x_2)), (4, (.sl .nl (Enc.shp Int) 0 [])), (5, (oI 5 [] (.of [])))] ⟨(hg_2 0 _ _ h0 mi), (hg_2 1 _ _ h1 mi), (hg_2 4 _ (.sl .nl (Enc.shp Int) 0 []) h4 rfl), (hg_2 5 _ _ h5 (map_encO (r := 7) (p := []) rfl rfl))⟩ ?_
  rintro s ⟨h0, h1, h4, h5⟩
  refine .nsq (.seq (.seq (rg (g0 (ji 0) fun h6 => gq (.nsq (.block (.loop ?_)))))))
  exact t_f11_l1 H x_1 x_2 F [] 0 _ ⟨h0, h1, h4, h5, h6⟩ h
end
def e11 (F : Nat) : Ent := ent 11 (fun (x : (Int × Int × Unit)) => s_l2Bits F x.1 x.2.1) (fun (r : (List Int)) => (Enc.enc (r : (List Int)))) 0 false []
theorem p11 {F : Nat} {x0 : Int} {x1 : Int} {r : (List Int)} (h : s_l2Bits F x0 x1 = some r) : (e11 F).den [Enc.enc x0, Enc.enc x1] = some (Enc.enc (r : (List Int))) := ent_put (x0, x1, ()) h
theorem o11 {D : Den} {σ : Sig} {F : Nat} (hF : Fits2 Try.prog D σ) (H : H11 D σ F) : (e11 F).Ok Try.prog := by
  refine ok_of (f := 11) (show unk 11 = 11 from rfl) (fun args r h => ?_) ⟨Try.f11, Try.func11, rfl, rfl⟩
  obtain ⟨⟨x0, x1, _⟩, y, rfl, hy, rfl⟩ := da_open h
  exact contract_run hF (by kernel_rfl) Try.func11 rfl c11 (show 2 ≤ Try.f11.ntmps by decide) (t11 H x0 x1 _ ⟨rfl, rfl⟩ hy)
/- loop.example/g01109/spec.l2Near -/
def A25_2 : AC := (.cond (.t 13) .skip (.exit 0))
def A25_5 : AC := (.cond (.t 42) (.seq (.reg [] [((jv 6 (.mov (.k (.bool true)))))] []) .ret) .skip)
def A25_4 : AC := (.seq (.reg [] [((jv 21 (.idxA (.t 8) (jn 0) 2 1))), ((jv 22 (.load .s (.t 21)))), (jm 23 1), ((jv 24 (.bin .eql (.t 22) (.t 23)))), (jm 25 24), ((jg 26 25 true (.idxA (.t 8) (jn 1) 2 1))), ((jg 27 25 true (.load .s (.t 26)))), ((jg 28 25 true (.mov (.t 2)))), ((jg 29 25 true (.bin .eql (.t 27) (.t 28)))), ((jv 30 (.pick (.t 25) (.t 29) (.k (.bool false))))), (jm 31 30), ((jg 32 31 false (.idxA (.t 8) (jn 0) 2 1))), ((jg 33 31 false (.load .s (.t 32)))), ((jg 34 31 false (.mov (.t 2)))), ((jg 35 31 false (.bin .eql (.t 33) (.t 34)))), ((jg 36 31 false (.mov (.t 35)))), ((jg 37 36 true (.idxA (.t 8) (jn 1) 2 1))), ((jg 38 36 true (.load .s (.t 37)))), ((jg 39 36 true (.mov (.t 1)))), ((jg 40 36 true (.bin .eql (.t 38) (.t 39)))), ((jg 41 31 false (.pick (.t 36) (.t 40) (.k (.bool false))))), ((jv 42 (.pick (.t 31) (.k (.bool true)) (.t 41))))] []) A25_5)
def A25_6 : AC := (.reg [] [(jm 14 7), ((jv 15 (.bin .add (.t 14) (jn 1)))), (jm 7 15)] [])
def A25_3 : AC := (.seq (.block 1 (.seq (.reg [.clr [8]] [((jv 16 (.fld (.t 3) 1 1))), ((jv 17 (.load .p (.t 16)))), (jm 18 7), ((jv 19 (.idx (.t 17) (.t 18) 2))), ((jv 20 (.load (.ag [.s, .s]) (.t 19)))), (.mk (some 8) none false (.alloc (.agg [(.int .i64 (.ofNat 0)), (.int .i64 (.ofNat 0))]))), (.mk none none false (.store (.ag [.s, .s]) (.t 8) (.t 20)))] []) A25_4)) A25_6)
def A25_1 : AC := (.seq (.seq (.reg [] [(jm 9 7), ((jv 10 (.fld (.t 3) 1 1))), ((jv 11 (.load .p (.t 10)))), ((jv 12 (.len (.t 11)))), ((jv 13 (.bin .lss (.t 9) (.t 12))))] []) A25_2) A25_3)
def A25_7 : AC := (.seq (.reg [] [((jv 6 (.mov (.k (.bool false)))))] []) .ret)
def A25_9 : AC := (.block 0 (.loop A25_1))
def A25_8 : AC := (.seq (.seq (.reg [] [((jv 7 (.mov (jn 0))))] []) A25_9) A25_7)
def A25 : AC := (.seq (.reg [.clr [3]] [(.mk (some 3) none false (.box (.t 0))), ((jv 6 (.mov (.k (.bool false)))))] []) A25_8)
def an25 : List An := [{ id := 0, pre := [.clr [3]], ep := [], lin := [], sp := [] }, { id := 4, pre := [.clr [8]], ep := [], lin := [], sp := [] }]
theorem c25 : cC Try.prog Try.f25.ntmps an25 (Try.f25.body.getD .skip) = some A25 := by kernel_rfl
structure H25 (D : Den) (σ : Sig) (F : Nat) : Prop where
  mk ::
abbrev R25 (r : Bool) : (Nat → V) → Prop := RR Try.prog [.tmp 6] 0 false (Enc.enc (r : Bool))
section
variable {D : Den} {σ : Sig} {F : Nat} {r : Bool}
def s_l2Near_j1 (F : Nat) (x_2 : Int) (x_3 : Int) (x_1 : (Int × (List (Int × Int)))) (x_6 : Int) (c1 : Int → Option Bool) (x_10 : Bool) : Option Bool :=
  bif x_10 then
    some true
  else
    c1 (w64 (x_6 + 1))
theorem t_f25_j1 (H : H25 D σ F) (x_2 : Int) (x_3 : Int) (x_1 : (Int × (List (Int × Int)))) (x_6 : Int) (c1 : Int → Option Bool) (Hc1 : ∀ (x_6 : Int) (s : Nat → V), Facts [(1, (ji x_2)), (2, (ji x_3)), (3, (.ref (.bx 3) 0 [] (.agg [(ji x_1.1), (Enc.enc (x_1.2 : List (Int × Int)))]))), (6, (jb false)), (7, (ji x_6))] s → c1 x_6 = some r → Run D σ (R25 r) (.run A25_1 [.lp A25_1, .bk 0, .sq A25_7]) s) (x_10 : Bool) (s : Nat → V) (hs : Facts [(1, (ji x_2)), (2, (ji x_3)), (3, (.ref (.bx 3) 0 [] (.agg [(ji x_1.1), (Enc.enc (x_1.2 : List (Int × Int)))]))), (6, (jb false)), (7, (ji x_6)), (42, (jb x_10))] s) (h : s_l2Near_j1 F x_2 x_3 x_1 x_6 c1 x_10 = some r) : Run D σ (R25 r) (.nrm [.sq A25_5, .bk 1, .sq A25_6, .lp A25_1, .bk 0, .sq A25_7]) s := by
  unfold s_l2Near_j1 at h
  obtain ⟨h1, h2, h3, h6, h7, h42⟩ := hs
  refine .nsq (run_cond (t := x_10) h42 h (fun h => ?_) (fun h => ?_))
  · refine .seq (rg (g0 (jb true) fun h6 => ?_))
    refine gq (.nsq (.ret ?_))
    have hr := Option.some.inj h
    subst hr
    exact rrA (res_tmp h6) rfl
  refine .skip (.nbk (.nsq (rg (gm h7 fun h14 => g1 14 (ji (w64 (x_6 + 1))) h14 fun h15 => ?_))))
  refine gm h15 fun h7 => gq (.nlp ?_)
  exact Hc1 (w64 (x_6 + 1)) _ ⟨h1, h2, h3, h6, h7⟩ h
def s_l2Near_l1 (F : Nat) (x_2 : Int) (x_3 : Int) (x_1 : (Int × (List (Int × Int))))  : Nat → Int → Option Bool
  | 0, _ => none
  | k + 1, x_6 =>
    bif decide (x_6 < (x_1.2.length : Int)) then
      (idx x_1.2 x_6).bind fun e_9 =>
      bif (e_9.1 == x_2) then
        bif (e_9.2 == x_3) then
          s_l2Near_j1 F x_2 x_3 x_1 x_6 (s_l2Near_l1 F x_2 x_3 x_1 k) true
        else
          bif (e_9.1 == x_3) then
            s_l2Near_j1 F x_2 x_3 x_1 x_6 (s_l2Near_l1 F x_2 x_3 x_1 k) (e_9.2 == x_2)
          else
            s_l2Near_j1 F x_2 x_3 x_1 x_6 (s_l2Near_l1 F x_2 x_3 x_1 k) false
      else
        bif (e_9.1 == x_3) then
          s_l2Near_j1 F x_2 x_3 x_1 x_6 (s_l2Near_l1 F x_2 x_3 x_1 k) (e_9.2 == x_2)
        else
          s_l2Near_j1 F x_2 x_3 x_1 x_6 (s_l2Near_l1 F x_2 x_3 x_1 k) false
    else
      some false
theorem t_f25_l1 (H : H25 D σ F) (x_2 : Int) (x_3 : Int) (x_1 : (Int × (List (Int × Int))))  : ∀ (k : Nat) (x_6 : Int) (s : Nat → V), Facts [(1, (ji x_2)), (2, (ji x_3)), (3, (.ref (.bx 3) 0 [] (.agg [(ji x_1.1), (Enc.enc (x_1.2 : List (Int × Int)))]))), (6, (jb false)), (7, (ji x_6))] s → s_l2Near_l1 F x_2 x_3 x_1 k x_6 = some r → Run D σ (R25 r) (.run A25_1 [.lp A25_1, .bk 0, .sq A25_7]) s := by
  intro k
  induction k with
  | zero => intro x_6 s _ h; exact nomatch (h : (none : Option _) = some r)
  | succ k ih =>
    intro x_6 s hs h
    rw [s_l2Near_l1] at h
    obtain ⟨h1, h2, h3, h6, h7⟩ := hs
    refine .seq (.seq (rg (gm h7 fun h9 => g1 3 (.ref (.bx 3) 0 [1] (Enc.enc (x_1.2 : List (Int × Int)))) h3 fun h10 => ?_)))
    refine g1 10 (Enc.enc (x_1.2 : List (Int × Int))) h10 fun h11 => ?_
    refine gv (ji (x_1.2.length : Int)) (ev_len (xs := x_1.2) h11) fun h12 => ?_
    refine g2 9 12 (jb (decide (x_6 < (x_1.2.length : Int)))) h9 h12 fun h13 => ?_
    refine gq (.nsq (run_cond (t := decide (x_6 < (x_1.2.length : Int))) h13 h (fun h => ?_) (fun h => ?_)))
    · refine .skip (.nsq (.seq (.block (.seq (run_reg ?_)))))
      refine e_clr ?_
      refine ez [(1, _), (2, _), (3, _), (6, _), (7, _), (8, _)] ⟨(keep_clear (pk := [8]) h1 rfl mi), (keep_clear (pk := [8]) h2 rfl mi), (keep_clear (pk := [8]) h3 rfl (map_bx rfl (map_agg (maps_cons mi (maps_cons me maps_nil))))), (keep_clear (pk := [8]) h6 rfl mb), (keep_clear (pk := [8]) h7 rfl mi), (gone_clear (pk := [8]) (t := 8) rfl)⟩ ?_
      rintro s ⟨h1, h2, h3, h6, h7, h8⟩
      refine g1 3 (.ref (.bx 3) 0 [1] (Enc.enc (x_1.2 : List (Int × Int)))) h3 fun h16 => ?_
      refine g1 16 (Enc.enc (x_1.2 : List (Int × Int))) h16 fun h17 => ?_
      refine gm h7 fun h18 => ?_
      obtain ⟨e_9, E_e_9, h⟩ := bind_some h
      refine gv (.ref .sh 0 [] (.agg [(ji e_9.1), (ji e_9.2)])) (ev_idx (t := .sh) (lo := 0) (xs := x_1.2) h17 h18 E_e_9 rfl rfl) fun h19 => ?_
      refine g1 19 (.agg [(ji e_9.1), (ji e_9.2)]) h19 fun h20 => ?_
      refine g_alloc h8 ?_
      refine g_store (.agg [(ji e_9.1), (ji e_9.2)]) (rd_of rfl rfl) (rd_of h20 rfl) (by refine ⟨by decide, by decide, rfl, rfl, rfl, ?_⟩; first | rfl | simp [V.toks, V.tokss, Enc.toks_enc]) ?_
      refine gz [(1, (ji x_2)), (2, (ji x_3)), (3, (.ref (.bx 3) 0 [] (.agg [(ji x_1.1), (Enc.enc (x_1.2 : List (Int × Int)))]))), (6, (jb false)), (7, (ji x_6)), (8, (.ref (.bx 8) 0 [] (.agg [(ji e_9.1), (ji e_9.2)])))] ⟨(keep_mut h1 rfl), (keep_mut h2 rfl), (keep_mut h3 (mut_ref_ne rfl rfl (mut_agg (muts_cons rfl (muts_cons (Enc.mut_enc _ _ _ _ (x_1.2 : List (Int × Int))) rfl))))), (keep_mut h6 rfl), (keep_mut h7 rfl), (keep_mut rfl rfl)⟩ ?_
      rintro s ⟨h1, h2, h3, h6, h7, h8⟩
      refine .nsq (.seq (rg (g1 8 (.ref (.bx 8) 0 [0] (ji e_9.1)) h8 fun h21 => ?_)))
      refine g1 21 (ji e_9.1) h21 fun h22 => ?_
      refine gm h1 fun h23 => g2 22 23 (jb (e_9.1 == x_2)) h22 h23 fun h24 => ?_
      refine gm h24 fun h25 => split_on (c := (e_9.1 == x_2)) h (fun hg5 h => ?_) (fun hg5 h => ?_)
      · refine g_yes (h25.trans (congrArg V.bool hg5)) (g1 8 (.ref (.bx 8) 0 [1] (ji e_9.2)) h8 fun h26 => ?_)
        refine g_yes (h25.trans (congrArg V.bool hg5)) (g1 26 (ji e_9.2) h26 fun h27 => ?_)
        refine g_yes (h25.trans (congrArg V.bool hg5)) (gm h2 fun h28 => ?_)
        refine g_yes (h25.trans (congrArg V.bool hg5)) (g2 27 28 (jb (e_9.2 == x_3)) h27 h28 fun h29 => ?_)
        refine g2 25 29 (jb (e_9.2 == x_3)) (h25.trans (congrArg V.bool hg5)) h29 fun h30 => ?_
        refine gm h30 fun h31 => split_on (c := (e_9.2 == x_3)) h (fun hg11 h => ?_) (fun hg11 h => ?_)
        · refine g_no (h31.trans (congrArg V.bool hg11)) ?_
          refine g_no (h31.trans (congrArg V.bool hg11)) ?_
          refine g_no (h31.trans (congrArg V.bool hg11)) ?_
          refine g_no (h31.trans (congrArg V.bool hg11)) ?_
          refine g_no (h31.trans (congrArg V.bool hg11)) ?_
          refine g_skip rfl ?_
          refine g_skip rfl ?_
          refine g_skip rfl ?_
          refine g_skip rfl ?_
          refine g_no (h31.trans (congrArg V.bool hg11)) ?_
          refine g2 31 41 (jb true) (h31.trans (congrArg V.bool hg11)) (rfl : (_ : V) = (.tup [])) fun h42 => ?_
          refine gq ?_
          exact t_f25_j1 H x_2 x_3 x_1 x_6 (s_l2Near_l1 F x_2 x_3 x_1 k) ih true _ ⟨h1, h2, h3, h6, h7, h42⟩ h
        refine g_yes (h31.trans (congrArg V.bool hg11)) (g1 8 (.ref (.bx 8) 0 [0] (ji e_9.1)) h8 fun h32 => ?_)
        refine g_yes (h31.trans (congrArg V.bool hg11)) (g1 32 (ji e_9.1) h32 fun h33 => ?_)
        refine g_yes (h31.trans (congrArg V.bool hg11)) (gm h2 fun h34 => ?_)
        refine g_yes (h31.trans (congrArg V.bool hg11)) (g2 33 34 (jb (e_9.1 == x_3)) h33 h34 fun h35 => ?_)
        refine g_yes (h31.trans (congrArg V.bool hg11)) (gm h35 fun h36 => ?_)
        refine split_on (c := (e_9.1 == x_3)) h (fun hg16 h => ?_) (fun hg16 h => ?_)
        · refine g_yes (h36.trans (congrArg V.bool hg16)) (g1 8 (.ref (.bx 8) 0 [1] (ji e_9.2)) h8 fun h37 => ?_)
          refine g_yes (h36.trans (congrArg V.bool hg16)) (g1 37 (ji e_9.2) h37 fun h38 => ?_)
          refine g_yes (h36.trans (congrArg V.bool hg16)) (gm h1 fun h39 => ?_)
          refine g_yes (h36.trans (congrArg V.bool hg16)) (g2 38 39 (jb (e_9.2 == x_2)) h38 h39 fun h40 => ?_)
          refine g_yes (h31.trans (congrArg V.bool hg11)) (g2 36 40 (jb (e_9.2 == x_2)) (h36.trans (congrArg V.bool hg16)) h40 fun h41 => ?_)
          refine g2 31 41 (jb (e_9.2 == x_2)) (h31.trans (congrArg V.bool hg11)) h41 fun h42 => ?_
          refine gq ?_
          exact t_f25_j1 H x_2 x_3 x_1 x_6 (s_l2Near_l1 F x_2 x_3 x_1 k) ih (e_9.2 == x_2) _ ⟨h1, h2, h3, h6, h7, h42⟩ h
        refine g_no (h36.trans (congrArg V.bool hg16)) ?_
        refine g_no (h36.trans (congrArg V.bool hg16)) ?_
        refine g_no (h36.trans (congrArg V.bool hg16)) ?_
        refine g_no (h36.trans (congrArg V.bool hg16)) ?_
        refine g_yes (h31.trans (congrArg V.bool hg11)) (g2 36 40 (jb false) (h36.trans (congrArg V.bool hg16)) (rfl : (_ : V) = (.tup [])) fun h41 => ?_)
        refine g2 31 41 (jb false) (h31.trans (congrArg V.bool hg11)) h41 fun h42 => ?_
        refine gq ?_
        exact t_f25_j1 H x_2 x_3 x_1 x_6 (s_l2Near_l1 F x_2 x_3 x_1 k) ih false _ ⟨h1, h2, h3, h6, h7, h42⟩ h
      refine g_no (h25.trans (congrArg V.bool hg5)) ?_
      refine g_no (h25.trans (congrArg V.bool hg5)) ?_
      refine g_no (h25.trans (congrArg V.bool hg5)) ?_
      refine g_no (h25.trans (congrArg V.bool hg5)) ?_
      refine g2 25 29 (jb false) (h25.trans (congrArg V.bool hg5)) (rfl : (_ : V) = (.tup [])) fun h30 => ?_
      refine gm h30 fun h31 => g_yes h31 (g1 8 (.ref (.bx 8) 0 [0] (ji e_9.1)) h8 fun h32 => ?_)
      refine g_yes h31 (g1 32 (ji e_9.1) h32 fun h33 => ?_)
      refine g_yes h31 (gm h2 fun h34 => ?_)
      refine g_yes h31 (g2 33 34 (jb (e_9.1 == x_3)) h33 h34 fun h35 => ?_)
      refine g_yes h31 (gm h35 fun h36 => ?_)
      refine split_on (c := (e_9.1 == x_3)) h (fun hg16 h => ?_) (fun hg16 h => ?_)
      · refine g_yes (h36.trans (congrArg V.bool hg16)) (g1 8 (.ref (.bx 8) 0 [1] (ji e_9.2)) h8 fun h37 => ?_)
        refine g_yes (h36.trans (congrArg V.bool hg16)) (g1 37 (ji e_9.2) h37 fun h38 => ?_)
        refine g_yes (h36.trans (congrArg V.bool hg16)) (gm h1 fun h39 => ?_)
        refine g_yes (h36.trans (congrArg V.bool hg16)) (g2 38 39 (jb (e_9.2 == x_2)) h38 h39 fun h40 => ?_)
        refine g_yes h31 (g2 36 40 (jb (e_9.2 == x_2)) (h36.trans (congrArg V.bool hg16)) h40 fun h41 => ?_)
        refine g2 31 41 (jb (e_9.2 == x_2)) h31 h41 fun h42 => ?_
        refine gq ?_
        exact t_f25_j1 H x_2 x_3 x_1 x_6 (s_l2Near_l1 F x_2 x_3 x_1 k) ih (e_9.2 == x_2) _ ⟨h1, h2, h3, h6, h7, h42⟩ h
      refine g_no (h36.trans (congrArg V.bool hg16)) ?_
      refine g_no (h36.trans (congrArg V.bool hg16)) ?_
      refine g_no (h36.trans (congrArg V.bool hg16)) ?_
      refine g_no (h36.trans (congrArg V.bool hg16)) ?_
      refine g_yes h31 (g2 36 40 (jb false) (h36.trans (congrArg V.bool hg16)) (rfl : (_ : V) = (.tup [])) fun h41 => ?_)
      refine g2 31 41 (jb false) h31 h41 fun h42 => ?_
      refine gq ?_
      exact t_f25_j1 H x_2 x_3 x_1 x_6 (s_l2Near_l1 F x_2 x_3 x_1 k) ih false _ ⟨h1, h2, h3, h6, h7, h42⟩ h
    refine .exit (.esq (.elp (.ebk (.nsq (.seq (rg (g0 (jb false) fun h6 => ?_)))))))
    refine gq (.nsq (.ret ?_))
    have hr := Option.some.inj h
    subst hr
    exact rrA (res_tmp h6) rfl
def s_l2Near (F : Nat) (x_1 : (Int × (List (Int × Int)))) (x_2 : Int) (x_3 : Int) : Option Bool :=
  s_l2Near_l1 F x_2 x_3 x_1 F 0
theorem t25 (H : H25 D σ F) (x_1 : (Int × (List (Int × Int)))) (x_2 : Int) (x_3 : Int) (s : Nat → V) (hs : Facts [(0, (.agg [(ji x_1.1), (Enc.enc (x_1.2 : List (Int × Int)))])), (1, (ji x_2)), (2, (ji x_3))] s) (h : s_l2Near F x_1 x_2 x_3 = some r) : Run D σ (R25 r) (.run A25 []) s := by
  unfold s_l2Near at h
  obtain ⟨h0, h1, h2⟩ := hs
  refine .seq (run_reg ?_)
  refine e_clr ?_
  refine ez [(0, _), (1, _), (2, _), (3, _)] ⟨(keep_clear (pk := [3]) h0 rfl (map_agg (maps_cons mi (maps_cons me maps_nil)))), (keep_clear (pk := [3]) h1 rfl mi), (keep_clear (pk := [3]) h2 rfl mi), (gone_clear (pk := [3]) (t := 3) rfl)⟩ ?_
  rintro s ⟨h0, h1, h2, h3⟩
  refine g_box (.agg [(ji x_1.1), (Enc.enc (x_1.2 : List (Int × Int)))]) (rd_of h0 rfl) h3 rfl ?_
  refine g0 (jb false) fun h6 => ?_
  refine gq (.nsq (.seq (.seq (rg (g0 (ji 0) fun h7 => gq (.nsq (.block (.loop ?_))))))))
  exact t_f25_l1 H x_2 x_3 x_1 F 0 _ ⟨h1, h2, rfl, h6, h7⟩ h
end
def e25 (F : Nat) : Ent := ent 25 (fun (x : ((Int × (List (Int × Int))) × Int × Int × Unit)) => s_l2Near F x.1 x.2.1 x.2.2.1) (fun (r : Bool) => (Enc.enc (r : Bool))) 0 false []
theorem p25 {F : Nat} {x0 : (Int × (List (Int × Int)))} {x1 : Int} {x2 : Int} {r : Bool} (h : s_l2Near F x0 x1 x2 = some r) : (e25 F).den [Enc.enc x0, Enc.enc x1, Enc.enc x2] = some (Enc.enc (r : Bool)) := ent_put (x0, x1, x2, ()) h
theorem o25 {D : Den} {σ : Sig} {F : Nat} (hF : Fits2 Try.prog D σ) (H : H25 D σ F) : (e25 F).Ok Try.prog := by
  refine ok_of (f := 25) (show unk 25 = 25 from rfl) (fun args r h => ?_) ⟨Try.f25, Try.func25, rfl, rfl⟩
  obtain ⟨⟨x0, x1, x2, _⟩, y, rfl, hy, rfl⟩ := da_open h
  exact contract_run hF (by kernel_rfl) Try.func25 rfl c25 (show 3 ≤ Try.f25.ntmps by decide) (t25 H x0 x1 x2 _ ⟨rfl, rfl, rfl⟩ hy)
/- loop.example/g01109/spec.l1Has -/
def A26_2 : AC := (.cond (.t 9) .skip (.exit 0))
def A26_4 : AC := (.cond (.t 17) (.seq (.reg [] [((jv 4 (.mov (.k (.bool true)))))] []) .ret) .skip)
def A26_5 : AC := (.reg [] [(jm 10 5), ((jv 11 (.bin .add (.t 10) (jn 1)))), (jm 5 11)] [])
def A26_3 : AC := (.seq (.block 1 (.seq (.reg [] [(jm 12 0), (jm 13 5), ((jv 14 (.idx (.t 12) (.t 13) 1))), ((jv 15 (.load .s (.t 14)))), (jm 16 1), ((jv 17 (.bin .eql (.t 15) (.t 16))))] []) A26_4)) A26_5)
def A26_1 : AC := (.seq (.seq (.reg [] [(jm 6 5), (jm 7 0), ((jv 8 (.len (.t 7)))), ((jv 9 (.bin .lss (.t 6) (.t 8))))] []) A26_2) A26_3)
def A26_6 : AC := (.seq (.reg [] [((jv 4 (.mov (.k (.bool false)))))] []) .ret)
def A26_8 : AC := (.block 0 (.loop A26_1))
def A26_7 : AC := (.seq (.seq (.reg [] [((jv 5 (.mov (jn 0))))] []) A26_8) A26_6)
def A26 : AC := (.seq (.reg [] [((jv 4 (.mov (.k (.bool false)))))] []) A26_7)
def an26 : List An := []
theorem c26 : cC Try.prog Try.f26.ntmps an26 (Try.f26.body.getD .skip) = some A26 := by kernel_rfl
structure H26 (D : Den) (σ : Sig) (F : Nat) : Prop where
  mk ::
abbrev R26 (r : Bool) : (Nat → V) → Prop := RR Try.prog [.tmp 4] 0 false (Enc.enc (r : Bool))
section
variable {D : Den} {σ : Sig} {F : Nat} {r : Bool}
def s_l1Has_l1 (F : Nat) (x_1 : (List Int)) (x_2 : Int)  : Nat → Int → Option Bool
  | 0, _ => none
  | k + 1, x_4 =>
    bif decide (x_4 < (x_1.length : Int)) then
      (idx x_1 x_4).bind fun e_6 =>
      bif (e_6 == x_2) then
        some true
      else
        (s_l1Has_l1 F x_1 x_2 k) (w64 (x_4 + 1))
    else
      some false
theorem t_f26_l1 (H : H26 D σ F) (x_1 : (List Int)) (x_2 : Int)  : ∀ (k : Nat) (x_4 : Int) (s : Nat → V), Facts [(0, (eL x_1)), (1, (ji x_2)), (4, (jb false)), (5, (ji x_4))] s → s_l1Has_l1 F x_1 x_2 k x_4 = some r → Run D σ (R26 r) (.run A26_1 [.lp A26_1, .bk 0, .sq A26_6]) s := by
  intro k
  induction k with
  | zero => intro x_4 s _ h; exact nomatch (h : (none : Option _) = some r)
  | succ k ih =>
    intro x_4 s hs h
    rw [s_l1Has_l1] at h
    obtain ⟨h0, h1, h4, h5⟩ := hs
    refine .seq (.seq (rg (gm h5 fun h6 => gm h0 fun h7 => gv (ji (x_1.length : Int)) (ev_len (xs := x_1) h7) fun h8 => ?_)))
    refine g2 6 8 (jb (decide (x_4 < (x_1.length : Int)))) h6 h8 fun h9 => ?_
    refine gq (.nsq (run_cond (t := decide (x_4 < (x_1.length : Int))) h9 h (fun h => ?_) (fun h => ?_)))
    · refine .skip (.nsq (.seq (.block (.seq (rg (gm h0 fun h12 => gm h5 fun h13 => ?_))))))
      obtain ⟨e_6, E_e_6, h⟩ := bind_some h
      refine gv (.ref .sh 0 [] (ji e_6)) (ev_idx (t := .sh) (lo := 0) (xs := x_1) h12 h13 E_e_6 rfl rfl) fun h14 => ?_
      refine g1 14 (ji e_6) h14 fun h15 => ?_
      refine gm h1 fun h16 => g2 15 16 (jb (e_6 == x_2)) h15 h16 fun h17 => ?_
      refine gq (.nsq (run_cond (t := (e_6 == x_2)) h17 h (fun h => ?_) (fun h => ?_)))
      · refine .seq (rg (g0 (jb true) fun h4 => ?_))
        refine gq (.nsq (.ret ?_))
        have hr := Option.some.inj h
        subst hr
        exact rrA (res_tmp h4) rfl
      refine .skip (.nbk (.nsq (rg (gm h5 fun h10 => g1 10 (ji (w64 (x_4 + 1))) h10 fun h11 => ?_))))
      refine gm h11 fun h5 => gq (.nlp ?_)
      exact ih (w64 (x_4 + 1)) _ ⟨h0, h1, h4, h5⟩ h
    refine .exit (.esq (.elp (.ebk (.nsq (.seq (rg (g0 (jb false) fun h4 => ?_)))))))
    refine gq (.nsq (.ret ?_))
    have hr := Option.some.inj h
    subst hr
    exact rrA (res_tmp h4) rfl
def s_l1Has (F : Nat) (x_1 : (List Int)) (x_2 : Int) : Option Bool :=
  s_l1Has_l1 F x_1 x_2 F 0
theorem t26 (H : H26 D σ F) (x_1 : (List Int)) (x_2 : Int) (s : Nat → V) (hs : Facts [(0, (eL x_1)), (1, (ji x_2))] s) (h : s_l1Has F x_1 x_2 = some r) : Run D σ (R26 r) (.run A26 []) s := by
  unfold s_l1Has at h
  obtain ⟨h0, h1⟩ := hs
  refine .seq (rg (g0 (jb false) fun h4 => ?_))
  refine gq (.nsq (.seq (.seq (rg (g0 (ji 0) fun h5 => gq (.nsq (.block (.loop ?_))))))))
  exact t_f26_l1 H x_1 x_2 F 0 _ ⟨h0, h1, h4, h5⟩ h
end
def e26 (F : Nat) : Ent := ent 26 (fun (x : ((List Int) × Int × Unit)) => s_l1Has F x.1 x.2.1) (fun (r : Bool) => (Enc.enc (r : Bool))) 0 false []
theorem p26 {F : Nat} {x0 : (List Int)} {x1 : Int} {r : Bool} (h : s_l1Has F x0 x1 = some r) : (e26 F).den [Enc.enc x0, Enc.enc x1] = some (Enc.enc (r : Bool)) := ent_put (x0, x1, ()) h
theorem o26 {D : Den} {σ : Sig} {F : Nat} (hF : Fits2 Try.prog D σ) (H : H26 D σ F) : (e26 F).Ok Try.prog := by
  refine ok_of (f := 26) (show unk 26 = 26 from rfl) (fun args r h => ?_) ⟨Try.f26, Try.func26, rfl, rfl⟩
  obtain ⟨⟨x0, x1, _⟩, y, rfl, hy, rfl⟩ := da_open h
  exact contract_run hF (by kernel_rfl) Try.func26 rfl c26 (show 2 ≤ Try.f26.ntmps by decide) (t26 H x0 x1 _ ⟨rfl, rfl⟩ hy)
/- loop.example/g01109/spec.l1Put -/
def A27_1 : AC := (.cond (.t 31) (.seq (.reg [] [(jm 32 0), (jm 4 32)] []) .ret) .skip)
def A27_2 : AC := (.seq (.reg [.clr [33, 37, 39, 40, 44]] [(.mk (some 33) none true (.lit (.int .i64 (.ofNat 0)) 0 [])), (jm 34 0), (jm 35 5), ((jv 36 (.slice (.t 34) none (some (.t 35)) 1))), (.mk (some 37) none true (.appS .s (.t 33) (.t 36))), (jm 38 1), (.mk (some 39) none false (.lit (.int .i64 (.ofNat 0)) 1 [(0, 0, (.t 38))])), (.mk (some 40) none true (.appS .s (.t 37) (.t 39))), (jm 41 0), (jm 42 5), ((jv 43 (.slice (.t 41) (some (.t 42)) none 1))), (.mk (some 44) none false (.appS .s (.t 40) (.t 43))), (jm 4 44)] [.home 44 4]) .ret)
def A27_4 : AC := (.cond (.t 17) .skip (.exit 0))
def A27_5 : AC := (.block 1 (.reg [] [(jm 18 5), ((jv 19 (.bin .add (.t 18) (jn 1)))), (jm 5 19)] []))
def A27_3 : AC := (.seq (.seq (.reg [] [(jm 6 5), (jm 7 0), ((jv 8 (.len (.t 7)))), ((jv 9 (.bin .lss (.t 6) (.t 8)))), (jm 10 9), ((jg 11 10 true (.mov (.t 0)))), ((jg 12 10 true (.mov (.t 5)))), ((jg 13 10 true (.idx (.t 11) (.t 12) 1))), ((jg 14 10 true (.load .s (.t 13)))), ((jg 15 10 true (.mov (.t 1)))), ((jg 16 10 true (.bin .lss (.t 14) (.t 15)))), ((jv 17 (.pick (.t 10) (.t 16) (.k (.bool false)))))] []) A27_4) A27_5)
def A27_6 : AC := (.seq (.seq (.reg [] [(jm 20 5), (jm 21 0), ((jv 22 (.len (.t 21)))), ((jv 23 (.bin .lss (.t 20) (.t 22)))), (jm 24 23), ((jg 25 24 true (.mov (.t 0)))), ((jg 26 24 true (.mov (.t 5)))), ((jg 27 24 true (.idx (.t 25) (.t 26) 1))), ((jg 28 24 true (.load .s (.t 27)))), ((jg 29 24 true (.mov (.t 1)))), ((jg 30 24 true (.bin .eql (.t 28) (.t 29)))), ((jv 31 (.pick (.t 24) (.t 30) (.k (.bool false)))))] []) A27_1) A27_2)
def A27_8 : AC := (.seq (.block 0 (.loop A27_3)) A27_6)
def A27_7 : AC := (.seq (.reg [] [((jv 5 (.mov (jn 0))))] []) A27_8)
def A27 : AC := (.seq (.reg [] [((jv 4 (.mov (.k (.sl .nl .s 0 [])))))] []) A27_7)
def an27 : List An := [{ id := 6, pre := [.clr [33, 37, 39, 40, 44]], ep := [.home 44 4], lin := [0, 4, 7], sp := [4, 7, 11] }]
theorem c27 : cC Try.prog Try.f27.ntmps an27 (Try.f27.body.getD .skip) = some A27 := by kernel_rfl
structure H27 (D : Den) (σ : Sig) (F : Nat) : Prop where
  mk ::
abbrev R27 (r : (List Int)) : (Nat → V) → Prop := RR Try.prog [.tmp 4] 0 true (Enc.enc (r : (List Int)))
section
variable {D : Den} {σ : Sig} {F : Nat} {r : (List Int)}
def s_l1Put_j1 (F : Nat) (x_1 : (List Int)) (x_2 : Int) (x_6 : Int)  (x_13 : Bool) : Option (List Int) :=
  bif x_13 then
    some x_1
  else
    (sub x_1 0 x_6).bind fun sub_14 =>
    (appL [] sub_14).bind fun ap_15 =>
    (appL ap_15 [x_2]).bind fun ap_16 =>
    (sub x_1 x_6 (x_1.length : Int)).bind fun sub_17 =>
    (appL ap_16 sub_17).bind fun ap_18 =>
    some ap_18
theorem t_f27_j1 (H : H27 D σ F) (x_1 : (List Int)) (x_2 : Int) (x_6 : Int)  (x_13 : Bool) (s : Nat → V) (hs : Facts [(0, (eL x_1)), (1, (ji x_2)), (4, (.sl .nl (Enc.shp Int) 0 [])), (5, (ji x_6)), (31, (jb x_13))] s) (h : s_l1Put_j1 F x_1 x_2 x_6  x_13 = some r) : Run D σ (R27 r) (.nrm [.sq A27_1, .sq A27_2]) s := by
  unfold s_l1Put_j1 at h
  obtain ⟨h0, h1, h4, h5, h31⟩ := hs
  refine .nsq (run_cond (t := x_13) h31 h (fun h => ?_) (fun h => ?_))
  · refine .seq (rg (gm h0 fun h32 => gm h32 fun h4 => gq (.nsq (.ret ?_))))
    have hr := Option.some.inj h
    subst hr
    exact rrA (res_tmp h4) (fin_ret1 (fin_enc (x := (x_1 : (List Int)))))
  refine .skip (.nsq (.seq (run_reg ?_)))
  refine e_clr ?_
  refine ez [(0, _), (1, _), (4, _), (5, _), (33, _), (37, _), (39, _), (40, _), (44, _)] ⟨(keep_clear (pk := [33, 37, 39, 40, 44]) h0 rfl me), (keep_clear (pk := [33, 37, 39, 40, 44]) h1 rfl mi), (keep_clear (pk := [33, 37, 39, 40, 44]) h4 rfl rfl), (keep_clear (pk := [33, 37, 39, 40, 44]) h5 rfl mi), (gone_clear (pk := [33, 37, 39, 40, 44]) (t := 33) rfl), (gone_clear (pk := [33, 37, 39, 40, 44]) (t := 37) rfl), (gone_clear (pk := [33, 37, 39, 40, 44]) (t := 39) rfl), (gone_clear (pk := [33, 37, 39, 40, 44]) (t := 40) rfl), (gone_clear (pk := [33, 37, 39, 40, 44]) (t := 44) rfl)⟩ ?_
  rintro s ⟨h0, h1, h4, h5, h33, h37, h39, h40, h44⟩
  refine g_litLl [] [] trivial rfl rfl h33 ?_
  refine gm h0 fun h34 => gm h5 fun h35 => ?_
  obtain ⟨sub_14, E_sub_14, h⟩ := bind_some h
  refine gv (eL sub_14) (ev_slice (xs := x_1) h34 (optI_none) (optI_some h35) E_sub_14 rfl) fun h36 => ?_
  obtain ⟨ap_15, E_ap_15, h⟩ := bind_some h
  refine g_appS (p := []) (xs := []) (ys := (sub_14 : List Int)) (t2 := .sh) (lo2 := 0) rfl h36 rfl h37 rfl E_ap_15 ?_
  refine gm h1 fun h38 => g_litL [(38, (ji x_2))] [Enc.enc (x_2 : Int)] h38 rfl rfl h39 ?_
  obtain ⟨ap_16, E_ap_16, h⟩ := bind_some h
  refine g_appS (p := []) (xs := ap_15) (ys := ([x_2] : List Int)) (t2 := (.at 39 [])) (lo2 := 0) rfl rfl rfl h40 rfl E_ap_16 ?_
  refine gm h0 fun h41 => gm h5 fun h42 => ?_
  obtain ⟨sub_17, E_sub_17, h⟩ := bind_some h
  refine gv (eL sub_17) (ev_slice (xs := x_1) h41 (optI_some h42) (optI_none) E_sub_17 rfl) fun h43 => ?_
  obtain ⟨ap_18, E_ap_18, h⟩ := bind_some h
  refine g_appS (p := []) (xs := ap_16) (ys := (sub_17 : List Int)) (t2 := .sh) (lo2 := 0) rfl h43 rfl h44 rfl E_ap_18 ?_
  refine gm (rfl : (_ : V) = (oI 44 [] (.of ap_18))) fun h4 => ?_
  refine g_end ?_
  refine e_home (r := 44) (x := 4) (v := _) h4 rfl (fun s_2 hg_2 => ?_)
  refine ez [(4, (oI 4 [] (.of ap_18)))] (hg_2 4 _ _ h4 (map_encO (r := 44) (p := []) rfl rfl)) ?_
  rintro s h4
  refine .nsq (.ret ?_)
  have hr := Option.some.inj h
  subst hr
  exact rrA (res_tmp h4) (fin_ret1 (fin_own (o := .of ap_18)))
def s_l1Put_j2 (F : Nat) (x_1 : (List Int)) (x_2 : Int) (x_6 : Int) (c1 : Int → Option (List Int)) (x_11 : Bool) : Option (List Int) :=
  bif x_11 then
    c1 (w64 (x_6 + 1))
  else
    bif decide (x_6 < (x_1.length : Int)) then
      (idx x_1 x_6).bind fun e_19 =>
      s_l1Put_j1 F x_1 x_2 x_6 (e_19 == x_2)
    else
      s_l1Put_j1 F x_1 x_2 x_6 false
theorem t_f27_j2 (H : H27 D σ F) (x_1 : (List Int)) (x_2 : Int) (x_6 : Int) (c1 : Int → Option (List Int)) (Hc1 : ∀ (x_6 : Int) (s : Nat → V), Facts [(0, (eL x_1)), (1, (ji x_2)), (4, (.sl .nl (Enc.shp Int) 0 [])), (5, (ji x_6))] s → c1 x_6 = some r → Run D σ (R27 r) (.run A27_3 [.lp A27_3, .bk 0, .sq A27_6]) s) (x_11 : Bool) (s : Nat → V) (hs : Facts [(0, (eL x_1)), (1, (ji x_2)), (4, (.sl .nl (Enc.shp Int) 0 [])), (5, (ji x_6)), (17, (jb x_11))] s) (h : s_l1Put_j2 F x_1 x_2 x_6 c1 x_11 = some r) : Run D σ (R27 r) (.nrm [.sq A27_4, .sq A27_5, .lp A27_3, .bk 0, .sq A27_6]) s := by
  unfold s_l1Put_j2 at h
  obtain ⟨h0, h1, h4, h5, h17⟩ := hs
  refine .nsq (run_cond (t := x_11) h17 h (fun h => ?_) (fun h => ?_))
  · refine .skip (.nsq (.block (rg (gm h5 fun h18 => g1 18 (ji (w64 (x_6 + 1))) h18 fun h19 => ?_))))
    refine gm h19 fun h5 => gq (.nbk (.nlp ?_))
    exact Hc1 (w64 (x_6 + 1)) _ ⟨h0, h1, h4, h5⟩ h
  refine .exit (.esq (.elp (.ebk (.nsq (.seq (.seq (rg (gm h5 fun h20 => gm h0 fun h21 => gv (ji (x_1.length : Int)) (ev_len (xs := x_1) h21) fun h22 => ?_))))))))
  refine g2 20 22 (jb (decide (x_6 < (x_1.length : Int)))) h20 h22 fun h23 => ?_
  refine gm h23 fun h24 => split_on (c := decide (x_6 < (x_1.length : Int))) h (fun hg5 h => ?_) (fun hg5 h => ?_)
  · refine g_yes (h24.trans (congrArg V.bool hg5)) (gm h0 fun h25 => ?_)
    refine g_yes (h24.trans (congrArg V.bool hg5)) (gm h5 fun h26 => ?_)
    obtain ⟨e_19, E_e_19, h⟩ := bind_some h
    refine g_yes (h24.trans (congrArg V.bool hg5)) (gv (.ref .sh 0 [] (ji e_19)) (ev_idx (t := .sh) (lo := 0) (xs := x_1) h25 h26 E_e_19 rfl rfl) fun h27 => ?_)
    refine g_yes (h24.trans (congrArg V.bool hg5)) (g1 27 (ji e_19) h27 fun h28 => ?_)
    refine g_yes (h24.trans (congrArg V.bool hg5)) (gm h1 fun h29 => ?_)
    refine g_yes (h24.trans (congrArg V.bool hg5)) (g2 28 29 (jb (e_19 == x_2)) h28 h29 fun h30 => ?_)
    refine g2 24 30 (jb (e_19 == x_2)) (h24.trans (congrArg V.bool hg5)) h30 fun h31 => ?_
    refine gq ?_
    exact t_f27_j1 H x_1 x_2 x_6 (e_19 == x_2) _ ⟨h0, h1, h4, h5, h31⟩ h
  refine g_no (h24.trans (congrArg V.bool hg5)) ?_
  refine g_no (h24.trans (congrArg V.bool hg5)) ?_
  refine g_no (h24.trans (congrArg V.bool hg5)) ?_
  refine g_no (h24.trans (congrArg V.bool hg5)) ?_
  refine g_no (h24.trans (congrArg V.bool hg5)) ?_
  refine g_no (h24.trans (congrArg V.bool hg5)) ?_
  refine g2 24 30 (jb false) (h24.trans (congrArg V.bool hg5)) (rfl : (_ : V) = (.tup [])) fun h31 => ?_
  refine gq ?_
  exact t_f27_j1 H x_1 x_2 x_6 false _ ⟨h0, h1, h4, h5, h31⟩ h
def s_l1Put_l1 (F : Nat) (x_1 : (List Int)) (x_2 : Int)  : Nat → Int → Option (List Int)
  | 0, _ => none
  | k + 1, x_6 =>
    bif decide (x_6 < (x_1.length : Int)) then
      (idx x_1 x_6).bind fun e_20 =>
      s_l1Put_j2 F x_1 x_2 x_6 (s_l1Put_l1 F x_1 x_2 k) (decide (e_20 < x_2))
    else
      s_l1Put_j2 F x_1 x_2 x_6 (s_l1Put_l1 F x_1 x_2 k) false
theorem t_f27_l1 (H : H27 D σ F) (x_1 : (List Int)) (x_2 : Int)  : ∀ (k : Nat) (x_6 : Int) (s : Nat → V), Facts [(0, (eL x_1)), (1, (ji x_2)), (4, (.sl .nl (Enc.shp Int) 0 [])), (5, (ji x_6))] s → s_l1Put_l1 F x_1 x_2 k x_6 = some r → Run D σ (R27 r) (.run A27_3 [.lp A27_3, .bk 0, .sq A27_6]) s := by
  intro k
  induction k with
  | zero => intro x_6 s _ h; exact nomatch (h : (none : Option _) = some r)
  | succ k ih =>
    intro x_6 s hs h
    rw [s_l1Put_l1] at h
    obtain ⟨h0, h1, h4, h5⟩ := hs
    refine .seq (.seq (rg (gm h5 fun h6 => gm h0 fun h7 => gv (ji (x_1.length : Int)) (ev_len (xs := x_1) h7) fun h8 => ?_)))
    refine g2 6 8 (jb (decide (x_6 < (x_1.length : Int)))) h6 h8 fun h9 => ?_
    refine gm h9 fun h10 => split_on (c := decide (x_6 < (x_1.length : Int))) h (fun hg5 h => ?_) (fun hg5 h => ?_)
    · refine g_yes (h10.trans (congrArg V.bool hg5)) (gm h0 fun h11 => ?_)
      refine g_yes (h10.trans (congrArg V.bool hg5)) (gm h5 fun h12 => ?_)
      obtain ⟨e_20, E_e_20, h⟩ := bind_some h
      refine g_yes (h10.trans (congrArg V.bool hg5)) (gv (.ref .sh 0 [] (ji e_20)) (ev_idx (t := .sh) (lo := 0) (xs := x_1) h11 h12 E_e_20 rfl rfl) fun h13 => ?_)
      refine g_yes (h10.trans (congrArg V.bool hg5)) (g1 13 (ji e_20) h13 fun h14 => ?_)
      refine g_yes (h10.trans (congrArg V.bool hg5)) (gm h1 fun h15 => ?_)
      refine g_yes (h10.trans (congrArg V.bool hg5)) (g2 14 15 (jb (decide (e_20 < x_2))) h14 h15 fun h16 => ?_)
      refine g2 10 16 (jb (decide (e_20 < x_2))) (h10.trans (congrArg V.bool hg5)) h16 fun h17 => ?_
      refine gq ?_
      exact t_f27_j2 H x_1 x_2 x_6 (s_l1Put_l1 F x_1 x_2 k) ih (decide (e_20 < x_2)) _ ⟨h0, h1, h4, h5, h17⟩ h
    refine g_no (h10.trans (congrArg V.bool hg5)) ?_
    refine g_no (h10.trans (congrArg V.bool hg5)) ?_
    refine g_no (h10.trans (congrArg V.bool hg5)) ?_
    refine g_no (h10.trans (congrArg V.bool hg5)) ?_
    refine g_no (h10.trans (congrArg V.bool hg5)) ?_
    refine g_no (h10.trans (congrArg V.bool hg5)) ?_
    refine g2 10 16 (jb false) (h10.trans (congrArg V.bool hg5)) (rfl : (_ : V) = (.tup [])) fun h17 => ?_
    refine gq ?_
    exact t_f27_j2 H x_1 x_2 x_6 (s_l1Put_l1 F x_1 x_2 k) ih false _ ⟨h0, h1, h4, h5, h17⟩ h
def s_l1Put (F : Nat) (x_1 : (List Int)) (x_2 : Int) : Option (List Int) :=
  s_l1Put_l1 F x_1 x_2 F 0
theorem t27 (H : H27 D σ F) (x_1 : (List Int)) (x_2 : Int) (s : Nat → V) (hs : Facts [(0, (eL x_1)), (1, (ji x_2))] s) (h : s_l1Put F x_1 x_2 = some r) : Run D σ (R27 r) (.run A27 []) s := by
  unfold s_l1Put at h
  obtain ⟨h0, h1⟩ := hs
  refine .seq (rg (g0 (.sl .nl (Enc.shp Int) 0 []) fun h4 => ?_))
  refine gq (.nsq (.seq (rg (g0 (ji 0) fun h5 => gq (.nsq (.seq (.block (.loop ?_))))))))
  exact t_f27_l1 H x_1 x_2 F 0 _ ⟨h0, h1, h4, h5⟩ h
end
def e27 (F : Nat) : Ent := ent 27 (fun (x : ((List Int) × Int × Unit)) => s_l1Put F x.1 x.2.1) (fun (r : (List Int)) => (Enc.enc (r : (List Int)))) 0 true []
theorem p27 {F : Nat} {x0 : (List Int)} {x1 : Int} {r : (List Int)} (h : s_l1Put F x0 x1 = some r) : (e27 F).den [Enc.enc x0, Enc.enc x1] = some (Enc.enc (r : (List Int))) := ent_put (x0, x1, ()) h
theorem o27 {D : Den} {σ : Sig} {F : Nat} (hF : Fits2 Try.prog D σ) (H : H27 D σ F) : (e27 F).Ok Try.prog := by
  refine ok_of (f := 27) (show unk 27 = 27 from rfl) (fun args r h => ?_) ⟨Try.f27, Try.func27, rfl, rfl⟩
  obtain ⟨⟨x0, x1, _⟩, y, rfl, hy, rfl⟩ := da_open h
  exact contract_run hF (by kernel_rfl) Try.func27 rfl c27 (show 2 ≤ Try.f27.ntmps by decide) (t27 H x0 x1 _ ⟨rfl, rfl⟩ hy)
/- loop.example/g01109/spec.l6Front -/
def A12_2 : AC := (.cond (.t 12) .skip (.exit 0))
def A12_6 : AC := (.cond (.t 18) .skip (.exit 2))
def A12_8 : AC := (.cond (.t 33) (.reg [.frz 5] [(jm 34 5), (jm 35 1), (jm 36 6), ((jv 37 (.idx (.t 35) (.t 36) 1))), ((jv 38 (.load .s (.t 37)))), (.mk (some 39) none false (.call (.k (.fn 27 [] [])) [(.t 34), (.t 38)])), (jm 5 39)] []) .skip)
def A12_9 : AC := (.reg [] [(jm 19 7), ((jv 20 (.bin .add (.t 19) (jn 1)))), (jm 7 20)] [])
def A12_7 : AC := (.seq (.block 3 (.seq (.reg [] [((jv 21 (.load (.ag [.s, .p]) (.t 2)))), (jm 22 1), (jm 23 6), ((jv 24 (.idx (.t 22) (.t 23) 1))), ((jv 25 (.load .s (.t 24)))), (jm 26 7), (.mk (some 27) none false (.call (.k (.fn 25 [] [])) [(.t 21), (.t 25), (.t 26)])), (jm 28 27), ((jg 29 28 true (.mov (.t 1)))), ((jg 30 28 true (.mov (.t 7)))), (.mk (some 31) (some (28, true)) false (.call (.k (.fn 26 [] [])) [(.t 29), (.t 30)])), ((jg 32 28 true (.un .not (.t 31)))), ((jv 33 (.pick (.t 28) (.t 32) (.k (.bool false)))))] []) A12_8)) A12_9)
def A12_5 : AC := (.seq (.seq (.reg [] [(jm 15 7), ((jv 16 (.fld (.t 2) 0 0))), ((jv 17 (.load .s (.t 16)))), ((jv 18 (.bin .lss (.t 15) (.t 17))))] []) A12_6) A12_7)
def A12_4 : AC := (.block 2 (.loop A12_5))
def A12_10 : AC := (.reg [] [(jm 13 6), ((jv 14 (.bin .add (.t 13) (jn 1)))), (jm 6 14)] [])
def A12_3 : AC := (.seq (.block 1 (.seq (.reg [] [((jv 7 (.mov (jn 0))))] []) A12_4)) A12_10)
def A12_1 : AC := (.seq (.seq (.reg [] [(jm 9 6), (jm 10 1), ((jv 11 (.len (.t 10)))), ((jv 12 (.bin .lss (.t 9) (.t 11))))] []) A12_2) A12_3)
def A12_11 : AC := (.seq (.reg [] [(jm 40 5), (jm 4 40)] []) .ret)
def A12_14 : AC := (.block 0 (.loop A12_1))
def A12_13 : AC := (.seq (.seq (.reg [] [((jv 6 (.mov (jn 0))))] []) A12_14) A12_11)
def A12_12 : AC := (.seq (.reg [.clr [8]] [(.mk (some 8) none false (.lit (.int .i64 (.ofNat 0)) 0 [])), (jm 5 8)] [.home 8 5, .frz 5]) A12_13)
def A12 : AC := (.seq (.reg [.clr [2]] [(.mk (some 2) none false (.box (.t 0))), ((jv 4 (.mov (.k (.sl .nl .s 0 [])))))] []) A12_12)
def an12 : List An := [{ id := 0, pre := [.clr [2]], ep := [], lin := [], sp := [] }, { id := 1, pre := [.clr [8]], ep := [.home 8 5, .frz 5], lin := [], sp := [] }, { id := 9, pre := [.frz 5], ep := [], lin := [], sp := [] }]
theorem c12 : cC Try.prog Try.f12.ntmps an12 (Try.f12.body.getD .skip) = some A12 := by kernel_rfl
structure H12 (D : Den) (σ : Sig) (F : Nat) : Prop where
  c25 : ∀ (x0 : (Int × (List (Int × Int)))) (x1 : Int) (x2 : Int) r, s_l2Near F x0 x1 x2 = some r → D 25 [Enc.enc x0, Enc.enc x1, Enc.enc x2] = some (Enc.enc (r : Bool))
  g25 : σ 25 = some (0, false)
  c26 : ∀ (x0 : (List Int)) (x1 : Int) r, s_l1Has F x0 x1 = some r → D 26 [Enc.enc x0, Enc.enc x1] = some (Enc.enc (r : Bool))
  g26 : σ 26 = some (0, false)
  c27 : ∀ (x0 : (List Int)) (x1 : Int) r, s_l1Put F x0 x1 = some r → D 27 [Enc.enc x0, Enc.enc x1] = some (Enc.enc (r : (List Int)))
  g27 : σ 27 = some (0, true)
abbrev R12 (r : (List Int)) : (Nat → V) → Prop := RR Try.prog [.tmp 4] 0 true (Enc.enc (r : (List Int)))
section
variable {D : Den} {σ : Sig} {F : Nat} {r : (List Int)}
def s_l6Front_j1 (F : Nat) (x_2 : (List Int)) (x_1 : (Int × (List (Int × Int)))) (x_42 : Int) (x_94 : Int) (c1 : (List Int) → Int → Option (List Int)) (c4 : (List Int) → Int → Option (List Int)) (x_113 : (List Int)) : Option (List Int) :=
  c4 x_113 (w64 (x_94 + 1))
theorem t_f12_j1 (H : H12 D σ F) (x_2 : (List Int)) (x_1 : (Int × (List (Int × Int)))) (x_42 : Int) (x_94 : Int) (c1 : (List Int) → Int → Option (List Int)) (Hc1 : ∀ (x_41 : (List Int)) (x_42 : Int) (s : Nat → V), Facts [(1, (eL x_2)), (2, (.ref (.bx 2) 0 [] (.agg [(ji x_1.1), (Enc.enc (x_1.2 : List (Int × Int)))]))), (4, (.sl .nl (Enc.shp Int) 0 [])), (5, (eL x_41)), (6, (ji x_42))] s → c1 x_41 x_42 = some r → Run D σ (R12 r) (.run A12_1 [.lp A12_1, .bk 0, .sq A12_11]) s) (c4 : (List Int) → Int → Option (List Int)) (Hc4 : ∀ (x_93 : (List Int)) (x_94 : Int) (s : Nat → V), Facts [(1, (eL x_2)), (2, (.ref (.bx 2) 0 [] (.agg [(ji x_1.1), (Enc.enc (x_1.2 : List (Int × Int)))]))), (4, (.sl .nl (Enc.shp Int) 0 [])), (5, (eL x_93)), (6, (ji x_42)), (7, (ji x_94))] s → c4 x_93 x_94 = some r → Run D σ (R12 r) (.run A12_5 [.lp A12_5, .bk 2, .bk 1, .sq A12_10, .lp A12_1, .bk 0, .sq A12_11]) s) (x_113 : (List Int)) (s : Nat → V) (hs : Facts [(1, (eL x_2)), (2, (.ref (.bx 2) 0 [] (.agg [(ji x_1.1), (Enc.enc (x_1.2 : List (Int × Int)))]))), (4, (.sl .nl (Enc.shp Int) 0 [])), (5, (eL x_113)), (6, (ji x_42)), (7, (ji x_94))] s) (h : s_l6Front_j1 F x_2 x_1 x_42 x_94 c1 c4 x_113 = some r) : Run D σ (R12 r) (.nrm [.bk 3, .sq A12_9, .lp A12_5, .bk 2, .bk 1, .sq A12_10, .lp A12_1, .bk 0, .sq A12_11]) s := by
  unfold s_l6Front_j1 at h
  obtain ⟨h1, h2, h4, h5, h6, h7⟩ := hs
  refine .nbk (.nsq (rg (gm h7 fun h19 => g1 19 (ji (w64 (x_94 + 1))) h19 fun h20 => ?_)))
  refine gm h20 fun h7 => gq (.nlp ?_)
  exact Hc4 x_113 (w64 (x_94 + 1)) _ ⟨h1, h2, h4, h5, h6, h7⟩ h
def s_l6Front_j2 (F : Nat) (x_2 : (List Int)) (x_1 : (Int × (List (Int × Int)))) (x_93 : (List Int)) (x_42 : Int) (x_94 : Int) (c1 : (List Int) → Int → Option (List Int)) (c4 : (List Int) → Int → Option (List Int)) (x_110 : Bool) : Option (List Int) :=
  bif x_110 then
    (idx x_2 x_42).bind fun e_114 =>
    (s_l1Put F x_93 e_114).bind fun r_115 =>
    s_l6Front_j1 F x_2 x_1 x_42 x_94 c1 c4 r_115
  else
    s_l6Front_j1 F x_2 x_1 x_42 x_94 c1 c4 x_93
theorem t_f12_j2 (H : H12 D σ F) (x_2 : (List Int)) (x_1 : (Int × (List (Int × Int)))) (x_93 : (List Int)) (x_42 : Int) (x_94 : Int) (c1 : (List Int) → Int → Option (List Int)) (Hc1 : ∀ (x_41 : (List Int)) (x_42 : Int) (s : Nat → V), Facts [(1, (eL x_2)), (2, (.ref (.bx 2) 0 [] (.agg [(ji x_1.1), (Enc.enc (x_1.2 : List (Int × Int)))]))), (4, (.sl .nl (Enc.shp Int) 0 [])), (5, (eL x_41)), (6, (ji x_42))] s → c1 x_41 x_42 = some r → Run D σ (R12 r) (.run A12_1 [.lp A12_1, .bk 0, .sq A12_11]) s) (c4 : (List Int) → Int → Option (List Int)) (Hc4 : ∀ (x_93 : (List Int)) (x_94 : Int) (s : Nat → V), Facts [(1, (eL x_2)), (2, (.ref (.bx 2) 0 [] (.agg [(ji x_1.1), (Enc.enc (x_1.2 : List (Int × Int)))]))), (4, (.sl .nl (Enc.shp Int) 0 [])), (5, (eL x_93)), (6, (ji x_42)), (7, (ji x_94))] s → c4 x_93 x_94 = some r → Run D σ (R12 r) (.run A12_5 [.lp A12_5, .bk 2, .bk 1, .sq A12_10, .lp A12_1, .bk 0, .sq A12_11]) s) (x_110 : Bool) (s : Nat → V) (hs : Facts [(1, (eL x_2)), (2, (.ref (.bx 2) 0 [] (.agg [(ji x_1.1), (Enc.enc (x_1.2 : List (Int × Int)))]))), (4, (.sl .nl (Enc.shp Int) 0 [])), (5, (eL x_93)), (6, (ji x_42)), (7, (ji x_94)), (33, (jb x_110))] s) (h : s_l6Front_j2 F x_2 x_1 x_93 x_42 x_94 c1 c4 x_110 = some r) : Run D σ (R12 r) (.nrm [.sq A12_8, .bk 3, .sq A12_9, .lp A12_5, .bk 2, .bk 1, .sq A12_10, .lp A12_1, .bk 0, .sq A12_11]) s := by
  unfold s_l6Front_j2 at h
  obtain ⟨h1, h2, h4, h5, h6, h7, h33⟩ := hs
  refine .nsq (run_cond (t := x_110) h33 h (fun h => ?_) (fun h => ?_))
  · refine run_reg ?_
    refine e_frz (x := 5) (v := (eL x_93)) [] (by exact h5) (Enc.toks_enc (x_93 : List Int)) (fun s_22 hg_22 => ?_)
    refine ez [(1, _), (2, _), (4, _), (5, _), (6, _), (7, _)] ⟨(hg_22 1 (eL x_2) (eL x_2) h1 (frz_none _)), (hg_22 2 (.ref (.bx 2) 0 [] (.agg [(ji x_1.1), (Enc.enc (x_1.2 : List (Int × Int)))])) (.ref (.bx 2) 0 [] (.agg [(ji x_1.1), (Enc.enc (x_1.2 : List (Int × Int)))])) h2 (frz_none _)), (hg_22 4 (.sl .nl (Enc.shp Int) 0 []) (.sl .nl (Enc.shp Int) 0 []) h4 (frz_none _)), (hg_22 5 (eL x_93) (eL x_93) h5 (frz_none _)), (hg_22 6 (ji x_42) (ji x_42) h6 (frz_none _)), (hg_22 7 (ji x_94) (ji x_94) h7 (frz_none _))⟩ ?_
    rintro s ⟨h1, h2, h4, h5, h6, h7⟩
    refine gm h5 fun h34 => gm h1 fun h35 => gm h6 fun h36 => ?_
    obtain ⟨e_114, E_e_114, h⟩ := bind_some h
    refine gv (.ref .sh 0 [] (ji e_114)) (ev_idx (t := .sh) (lo := 0) (xs := x_2) h35 h36 E_e_114 rfl rfl) fun h37 => ?_
    refine g1 37 (ji e_114) h37 fun h38 => ?_
    obtain ⟨r_115, E_r_115, h⟩ := bind_some h
    refine g_call (m := 0) (al := true) (r := (Enc.enc (r_115 : (List Int)))) [Enc.enc (x_93 : (List Int)), Enc.enc (e_114 : Int)] (ta_cons (v := (eL x_93)) h34 rfl (Enc.erase_enc (x_93 : (List Int))) (ta_cons (v := (ji e_114)) h38 rfl rfl ta_nil)) (H.c27 _ _ _ E_r_115) H.g27 (hal_of (ht_cons (v := (eL x_93)) h34 rfl rfl (ht_cons (v := (ji e_114)) h38 rfl rfl ht_nil))) rfl rfl rfl ?_
    refine gm (rfl : (_ : V) = (eL r_115)) fun h5 => ?_
    refine gq ?_
    exact t_f12_j1 H x_2 x_1 x_42 x_94 c1 Hc1 c4 Hc4 r_115 _ ⟨h1, h2, h4, h5, h6, h7⟩ h
  refine .skip ?_
  exact t_f12_j1 H x_2 x_1 x_42 x_94 c1 Hc1 c4 Hc4 x_93 _ ⟨h1, h2, h4, h5, h6, h7⟩ h
def s_l6Front_l1 (F : Nat) (x_2 : (List Int)) (x_1 : (Int × (List (Int × Int)))) (x_42 : Int) (c1 : (List Int) → Int → Option (List Int)) : Nat → (List Int) → Int → Option (List Int)
  | 0, _, _ => none
  | k + 1, x_93, x_94 =>
    bif decide (x_94 < x_1.1) then
      (idx x_2 x_42).bind fun e_116 =>
      (s_l2Near F x_1 e_116 x_94).bind fun r_117 =>
      bif r_117 then
        (s_l1Has F x_2 x_94).bind fun r_118 =>
        s_l6Front_j2 F x_2 x_1 x_93 x_42 x_94 c1 (s_l6Front_l1 F x_2 x_1 x_42 c1 k) (!r_118)
      else
        s_l6Front_j2 F x_2 x_1 x_93 x_42 x_94 c1 (s_l6Front_l1 F x_2 x_1 x_42 c1 k) false
    else
      c1 x_93 (w64 (x_42 + 1))
theorem t_f12_l1 (H : H12 D σ F) (x_2 : (List Int)) (x_1 : (Int × (List (Int × Int)))) (x_42 : Int) (c1 : (List Int) → Int → Option (List Int)) (Hc1 : ∀ (x_41 : (List Int)) (x_42 : Int) (s : Nat → V), Facts [(1, (eL x_2)), (2, (.ref (.bx 2) 0 [] (.agg [(ji x_1.1), (Enc.enc (x_1.2 : List (Int × Int)))]))), (4, (.sl .nl (Enc.shp Int) 0 [])), (5, (eL x_41)), (6, (ji x_42))] s → c1 x_41 x_42 = some r → Run D σ (R12 r) (.run A12_1 [.lp A12_1, .bk 0, .sq A12_11]) s) : ∀ (k : Nat) (x_93 : (List Int)) (x_94 : Int) (s : Nat → V), Facts [(1, (eL x_2)), (2, (.ref (.bx 2) 0 [] (.agg [(ji x_1.1), (Enc.enc (x_1.2 : List (Int × Int)))]))), (4, (.sl .nl (Enc.shp Int) 0 [])), (5, (eL x_93)), (6, (ji x_42)), (7, (ji x_94))] s → s_l6Front_l1 F x_2 x_1 x_42 c1 k x_93 x_94 = some r → Run D σ (R12 r) (.run A12_5 [.lp A12_5, .bk 2, .bk 1, .sq A12_10, .lp A12_1, .bk 0, .sq A12_11]) s := by
  intro k
  induction k with
  | zero => intro x_93 x_94 s _ h; exact nomatch (h : (none : Option _) = some r)
  | succ k ih =>
    intro x_93 x_94 s hs h
    rw [s_l6Front_l1] at h
    obtain ⟨h1, h2, h4, h5, h6, h7⟩ := hs
    refine .seq (.seq (rg (gm h7 fun h15 => g1 2 (.ref (.bx 2) 0 [0] (ji x_1.1)) h2 fun h16 => ?_)))
    refine g1 16 (ji x_1.1) h16 fun h17 => ?_
    refine g2 15 17 (jb (decide (x_94 < x_1.1))) h15 h17 fun h18 => ?_
    refine gq (.nsq (run_cond (t := decide (x_94 < x_1.1)) h18 h (fun h => ?_) (fun h => ?_)))
    · refine .skip (.nsq (.seq (.block (.seq (rg (g1 2 (.agg [(ji x_1.1), (Enc.enc (x_1.2 : List (Int × Int)))]) h2 fun h21 => ?_))))))
      refine gm h1 fun h22 => gm h6 fun h23 => ?_
      obtain ⟨e_116, E_e_116, h⟩ := bind_some h
      refine gv (.ref .sh 0 [] (ji e_116)) (ev_idx (t := .sh) (lo := 0) (xs := x_2) h22 h23 E_e_116 rfl rfl) fun h24 => ?_
      refine g1 24 (ji e_116) h24 fun h25 => ?_
      refine gm h7 fun h26 => ?_
      obtain ⟨r_117, E_r_117, h⟩ := bind_some h
      refine g_call (m := 0) (al := false) (r := (Enc.enc (r_117 : Bool))) [Enc.enc (x_1 : (Int × (List (Int × Int)))), Enc.enc (e_116 : Int), Enc.enc (x_94 : Int)] (ta_cons (v := (.agg [(ji x_1.1), (Enc.enc (x_1.2 : List (Int × Int)))])) h21 rfl (Enc.erase_enc (x_1 : (Int × (List (Int × Int))))) (ta_cons (v := (ji e_116)) h25 rfl rfl (ta_cons (v := (ji x_94)) h26 rfl rfl ta_nil))) (H.c25 _ _ _ _ E_r_117) H.g25 rfl rfl rfl rfl ?_
      refine gm (rfl : (_ : V) = (jb r_117)) fun h28 => ?_
      refine split_on (c := r_117) h (fun hg8 h => ?_) (fun hg8 h => ?_)
      · refine g_yes (h28.trans (congrArg V.bool hg8)) (gm h1 fun h29 => ?_)
        refine g_yes (h28.trans (congrArg V.bool hg8)) (gm h7 fun h30 => ?_)
        obtain ⟨r_118, E_r_118, h⟩ := bind_some h
        refine g_yes (h28.trans (congrArg V.bool hg8)) (g_call (m := 0) (al := false) (r := (Enc.enc (r_118 : Bool))) [Enc.enc (x_2 : (List Int)), Enc.enc (x_94 : Int)] (ta_cons (v := (eL x_2)) h29 rfl (Enc.erase_enc (x_2 : (List Int))) (ta_cons (v := (ji x_94)) h30 rfl rfl ta_nil)) (H.c26 _ _ _ E_r_118) H.g26 rfl rfl rfl rfl ?_)
        refine g_yes (h28.trans (congrArg V.bool hg8)) (g1 31 (jb (!r_118)) (rfl : (_ : V) = (jb r_118)) fun h32 => ?_)
        refine g2 28 32 (jb (!r_118)) (h28.trans (congrArg V.bool hg8)) h32 fun h33 => ?_
        refine gq ?_
        exact t_f12_j2 H x_2 x_1 x_93 x_42 x_94 c1 Hc1 (s_l6Front_l1 F x_2 x_1 x_42 c1 k) ih (!r_118) _ ⟨h1, h2, h4, h5, h6, h7, h33⟩ h
      refine g_no (h28.trans (congrArg V.bool hg8)) ?_
      refine g_no (h28.trans (congrArg V.bool hg8)) ?_
      refine g_no (h28.trans (congrArg V.bool hg8)) ?_
      refine g_no (h28.trans (congrArg V.bool hg8)) ?_
      refine g2 28 32 (jb false) (h28.trans (congrArg V.bool hg8)) (rfl : (_ : V) = (.tup [])) fun h33 => ?_
      refine gq ?_
      exact t_f12_j2 H x_2 x_1 x_93 x_42 x_94 c1 Hc1 (s_l6Front_l1 F x_2 x_1 x_42 c1 k) ih false _ ⟨h1, h2, h4, h5, h6, h7, h33⟩ h
    refine .exit (.esq (.elp (.ebk (.nbk (.nsq (rg (gm h6 fun h13 => g1 13 (ji (w64 (x_42 + 1))) h13 fun h14 => ?_)))))))
    refine gm h14 fun h6 => gq (.nlp ?_)
    exact Hc1 x_93 (w64 (x_42 + 1)) _ ⟨h1, h2, h4, h5, h6⟩ h
def s_l6Front_l2 (F : Nat) (x_2 : (List Int)) (x_1 : (Int × (List (Int × Int))))  : Nat → (List Int) → Int → Option (List Int)
  | 0, _, _ => none
  | k + 1, x_41, x_42 =>
    bif decide (x_42 < (x_2.length : Int)) then
      s_l6Front_l1 F x_2 x_1 x_42 (s_l6Front_l2 F x_2 x_1 k) F x_41 0
    else
      some x_41
theorem t_f12_l2 (H : H12 D σ F) (x_2 : (List Int)) (x_1 : (Int × (List (Int × Int))))  : ∀ (k : Nat) (x_41 : (List Int)) (x_42 : Int) (s : Nat → V), Facts [(1, (eL x_2)), (2, (.ref (.bx 2) 0 [] (.agg [(ji x_1.1), (Enc.enc (x_1.2 : List (Int × Int)))]))), (4, (.sl .nl (Enc.shp Int) 0 [])), (5, (eL x_41)), (6, (ji x_42))] s → s_l6Front_l2 F x_2 x_1 k x_41 x_42 = some r → Run D σ (R12 r) (.run A12_1 [.lp A12_1, .bk 0, .sq A12_11]) s := by
  intro k
  induction k with
  | zero => intro x_41 x_42 s _ h; exact nomatch (h : (none : Option _) = some r)
  | succ k ih =>
    intro x_41 x_42 s hs h
    rw [s_l6Front_l2] at h
    obtain ⟨h1, h2, h4, h5, h6⟩ := hs
    refine .seq (.seq (rg (gm h6 fun h9 => gm h1 fun h10 => gv (ji (x_2.length : Int)) (ev_len (xs := x_2) h10) fun h11 => ?_)))
    refine g2 9 11 (jb (decide (x_42 < (x_2.length : Int)))) h9 h11 fun h12 => ?_
    refine gq (.nsq (run_cond (t := decide (x_42 < (x_2.length : Int))) h12 h (fun h => ?_) (fun h => ?_)))
    · refine .skip (.nsq (.seq (.block (.seq (rg (g0 (ji 0) fun h7 => gq (.nsq (.block (.loop ?_)))))))))
      exact t_f12_l1 H x_2 x_1 x_42 (s_l6Front_l2 F x_2 x_1 k) ih F x_41 0 _ ⟨h1, h2, h4, h5, h6, h7⟩ h
    refine .exit (.esq (.elp (.ebk (.nsq (.seq (rg (gm h5 fun h40 => gm h40 fun h4 => gq (.nsq (.ret ?_)))))))))
    have hr := Option.some.inj h
    subst hr
    exact rrA (res_tmp h4) (fin_ret1 (fin_enc (x := (x_41 : (List Int)))))
def s_l6Front (F : Nat) (x_1 : (Int × (List (Int × Int)))) (x_2 : (List Int)) : Option (List Int) :=
  s_l6Front_l2 F x_2 x_1 F [] 0
theorem t12 (H : H12 D σ F) (x_1 : (Int × (List (Int × Int)))) (x_2 : (List Int)) (s : Nat → V) (hs : Facts [(0, (.agg [(ji x_1.1), (Enc.enc (x_1.2 : List (Int × Int)))])), (1, (eL x_2))] s) (h : s_l6Front F x_1 x_2 = some r) : Run D σ (R12 r) (.run A12 []) s := by
  unfold s_l6Front at h
  obtain ⟨h0, h1⟩ := hs
  refine .seq (run_reg ?_)
  refine e_clr ?_
  refine ez [(0, _), (1, _), (2, _)] ⟨(keep_clear (pk := [2]) h0 rfl (map_agg (maps_cons mi (maps_cons me maps_nil)))), (keep_clear (pk := [2]) h1 rfl me), (gone_clear (pk := [2]) (t := 2) rfl)⟩ ?_
  rintro s ⟨h0, h1, h2⟩
  refine g_box (.agg [(ji x_1.1), (Enc.enc (x_1.2 : List (Int × Int)))]) (rd_of h0 rfl) h2 rfl ?_
  refine g0 (.sl .nl (Enc.shp Int) 0 []) fun h4 => ?_
  refine gq (.nsq (.seq (run_reg ?_)))
  refine e_clr ?_
  refine ez [(1, _), (2, _), (4, _), (8, _)] ⟨(keep_clear (pk := [8]) h1 rfl me), (keep_clear (pk := [8]) rfl rfl (map_bx rfl (map_agg (maps_cons mi (maps_cons me maps_nil))))), (keep_clear (pk := [8]) h4 rfl rfl), (gone_clear (pk := [8]) (t := 8) rfl)⟩ ?_
  rintro s ⟨h1, h2, h4, h8⟩
  refine g_litL [] [] trivial rfl rfl h8 ?_
  refine gm (rfl : (_ : V) = (oI 8 [] (.of []))) fun h5 => ?_
  refine g_end ?_
  refine e_home (r := 8) (x := 5) (v := _) h5 rfl (fun s_3 hg_3 => ?_)
  refine e_frz (x := 5) (v := (oI 5 [] (.of []))) [(.at 5 [])] (by exact (hg_3 5 _ _ h5 (map_encO (r := 8) (p := []) rfl rfl))) toks_ownL (fun s_4 hg_4 => ?_)
  refine ez [(1, (eL x_2)), (2, (.ref (.bx 2) 0 [] (.agg [(ji x_1.1), (Enc.enc (x_1.2 : List (Int × Int)))]))), (4, (.sl .nl (Enc.shp Int) 0 [])), (5, (eL []))] ⟨(hg_4 1 (eL x_2) (eL x_2) (hg_3 1 _ _ h1 me) (Enc.frz_enc _ (x_2 : List Int))), (hg_4 2 (.ref (.bx 2) 0 [] (.agg [(ji x_1.1), (Enc.enc (x_1.2 : List (Int × Int)))])) (.ref (.bx 2) 0 [] (.agg [(ji x_1.1), (Enc.enc (x_1.2 : List (Int × Int)))])) (hg_3 2 _ _ h2 (map_bx rfl (map_agg (maps_cons mi (maps_cons me maps_nil))))) (frz_ref_ne rfl (frz_agg (frzs_cons rfl (frzs_cons (Enc.frz_enc _ (x_1.2 : List (Int × Int))) rfl))) rfl)), (hg_4 4 (.sl .nl (Enc.shp Int) 0 []) (.sl .nl (Enc.shp Int) 0 []) (hg_3 4 _ (.sl .nl (Enc.shp Int) 0 []) h4 rfl) rfl), (hg_4 5 (oI 5 [] (.of [])) (eL []) (hg_3 5 _ _ h5 (map_encO (r := 8) (p := []) rfl rfl)) frz_own)⟩ ?_
  rintro s ⟨h1, h2, h4, h5⟩
  refine .nsq (.seq (.seq (rg (g0 (ji 0) fun h6 => gq (.nsq (.block (.loop ?_)))))))
  exact t_f12_l2 H x_2 x_1 F [] 0 _ ⟨h1, h2, h4, h5, h6⟩ h
end
def e12 (F : Nat) : Ent := ent 12 (fun (x : ((Int × (List (Int × Int))) × (List Int) × Unit)) => s_l6Front F x.1 x.2.1) (fun (r : (List Int)) => (Enc.enc (r : (List Int)))) 0 true []
theorem p12 {F : Nat} {x0 : (Int × (List (Int × Int)))} {x1 : (List Int)} {r : (List Int)} (h : s_l6Front F x0 x1 = some r) : (e12 F).den [Enc.enc x0, Enc.enc x1] = some (Enc.enc (r : (List Int))) := ent_put (x0, x1, ()) h
theorem o12 {D : Den} {σ : Sig} {F : Nat} (hF : Fits2 Try.prog D σ) (H : H12 D σ F) : (e12 F).Ok Try.prog := by
  refine ok_of (f := 12) (show unk 12 = 12 from rfl) (fun args r h => ?_) ⟨Try.f12, Try.func12, rfl, rfl⟩
  obtain ⟨⟨x0, x1, _⟩, y, rfl, hy, rfl⟩ := da_open h
  exact contract_run hF (by kernel_rfl) Try.func12 rfl c12 (show 2 ≤ Try.f12.ntmps by decide) (t12 H x0 x1 _ ⟨rfl, rfl⟩ hy)
/- loop.example/g01109/spec.l1Most -/
def A13_2 : AC := (.cond (.t 7) (.seq (.reg [] [(jm 8 0), (jm 4 8)] []) .ret) .skip)
def A13_3 : AC := (.seq (.reg [] [(jm 9 1), (jm 4 9)] []) .ret)
def A13_1 : AC := (.seq (.seq (.reg [] [(jm 5 0), (jm 6 1), ((jv 7 (.bin .gtr (.t 5) (.t 6))))] []) A13_2) A13_3)
def A13 : AC := (.seq (.reg [] [((jv 4 (.mov (jn 0))))] []) A13_1)
def an13 : List An := []
theorem c13 : cC Try.prog Try.f13.ntmps an13 (Try.f13.body.getD .skip) = some A13 := by kernel_rfl
structure H13 (D : Den) (σ : Sig) (F : Nat) : Prop where
  mk ::
abbrev R13 (r : Int) : (Nat → V) → Prop := RR Try.prog [.tmp 4] 0 false (Enc.enc (r : Int))
section
variable {D : Den} {σ : Sig} {F : Nat} {r : Int}
def s_l1Most (F : Nat) (x_1 : Int) (x_2 : Int) : Option Int :=
  bif decide (x_1 > x_2) then
    some x_1
  else
    some x_2
theorem t13 (H : H13 D σ F) (x_1 : Int) (x_2 : Int) (s : Nat → V) (hs : Facts [(0, (ji x_1)), (1, (ji x_2))] s) (h : s_l1Most F x_1 x_2 = some r) : Run D σ (R13 r) (.run A13 []) s := by
  unfold s_l1Most at h
  obtain ⟨h0, h1⟩ := hs
  refine .seq (rg (g0 (ji 0) fun h4 => gq (.nsq (.seq (.seq (rg (gm h0 fun h5 => gm h1 fun h6 => g2 5 6 (jb (decide (x_1 > x_2))) h5 h6 fun h7 => ?_)))))))
  refine gq (.nsq (run_cond (t := decide (x_1 > x_2)) h7 h (fun h => ?_) (fun h => ?_)))
  · refine .seq (rg (gm h0 fun h8 => gm h8 fun h4 => gq (.nsq (.ret ?_))))
    have hr := Option.some.inj h
    subst hr
    exact rrA (res_tmp h4) rfl
  refine .skip (.nsq (.seq (rg (gm h1 fun h9 => gm h9 fun h4 => gq (.nsq (.ret ?_))))))
  have hr := Option.some.inj h
  subst hr
  exact rrA (res_tmp h4) rfl
end
def e13 (F : Nat) : Ent := ent 13 (fun (x : (Int × Int × Unit)) => s_l1Most F x.1 x.2.1) (fun (r : Int) => (Enc.enc (r : Int))) 0 false []
theorem p13 {F : Nat} {x0 : Int} {x1 : Int} {r : Int} (h : s_l1Most F x0 x1 = some r) : (e13 F).den [Enc.enc x0, Enc.enc x1] = some (Enc.enc (r : Int)) := ent_put (x0, x1, ()) h
theorem o13 {D : Den} {σ : Sig} {F : Nat} (hF : Fits2 Try.prog D σ) (H : H13 D σ F) : (e13 F).Ok Try.prog := by
  refine ok_of (f := 13) (show unk 13 = 13 from rfl) (fun args r h => ?_) ⟨Try.f13, Try.func13, rfl, rfl⟩
  obtain ⟨⟨x0, x1, _⟩, y, rfl, hy, rfl⟩ := da_open h
  exact contract_run hF (by kernel_rfl) Try.func13 rfl c13 (show 2 ≤ Try.f13.ntmps by decide) (t13 H x0 x1 _ ⟨rfl, rfl⟩ hy)
/- loop.example/g01109/spec.FrontBound -/
def A5_2 : AC := (.cond (.t 16) .skip (.exit 0))
def A5_7 : AC := (.cond (.t 23) .skip (.exit 2))
def A5_10 : AC := (.cond (.t 33) (.exit 3) .skip)
def A5_13 : AC := (.cond (.t 44) (.reg [] [(jm 45 9), (jm 6 45)] []) .skip)
def A5_12 : AC := (.seq (.reg [] [(jm 38 6), ((jv 39 (.bin .lss (.t 38) (jn 0)))), (jm 40 39), ((jg 41 40 false (.mov (.t 9)))), ((jg 42 40 false (.mov (.t 6)))), ((jg 43 40 false (.bin .lss (.t 41) (.t 42)))), ((jv 44 (.pick (.t 40) (.k (.bool true)) (.t 43))))] []) A5_13)
def A5_11 : AC := (.seq (.reg [] [((jv 34 (.load (.ag [.s, .p]) (.t 1)))), (jm 35 8), (.mk (some 36) none false (.call (.k (.fn 12 [] [])) [(.t 34), (.t 35)])), ((jv 37 (.len (.t 36)))), (jm 9 37)] []) A5_12)
def A5_9 : AC := (.seq (.seq (.reg [] [(jm 30 8), ((jv 31 (.len (.t 30)))), (jm 32 5), ((jv 33 (.bin .neq (.t 31) (.t 32))))] []) A5_10) A5_11)
def A5_14 : AC := (.reg [] [(jm 24 7), ((jv 25 (.bin .add (.t 24) (jn 1)))), (jm 7 25)] [])
def A5_8 : AC := (.seq (.block 3 (.seq (.reg [] [((jv 26 (.fld (.t 1) 0 0))), ((jv 27 (.load .s (.t 26)))), (jm 28 7), (.mk (some 29) none false (.call (.k (.fn 11 [] [])) [(.t 27), (.t 28)])), (jm 8 29)] []) A5_9)) A5_14)
def A5_6 : AC := (.seq (.seq (.reg [] [(jm 19 7), ((jv 20 (.fld (.t 1) 0 0))), ((jv 21 (.load .s (.t 20)))), ((jv 22 (.bin .shl (jn 1) (.t 21)))), ((jv 23 (.bin .lss (.t 19) (.t 22))))] []) A5_7) A5_8)
def A5_5 : AC := (.block 2 (.loop A5_6))
def A5_15 : AC := (.reg [] [(jm 46 4), (jm 47 6), (.mk (some 48) none false (.call (.k (.fn 13 [] [])) [(.t 46), (.t 47)])), (jm 4 48)] [])
def A5_4 : AC := (.seq (.seq (.reg [] [((jv 7 (.mov (jn 0))))] []) A5_5) A5_15)
def A5_16 : AC := (.reg [] [(jm 17 5), ((jv 18 (.bin .add (.t 17) (jn 1)))), (jm 5 18)] [])
def A5_3 : AC := (.seq (.block 1 (.seq (.reg [] [((jv 6 (.mov (jn (-1)))))] []) A5_4)) A5_16)
def A5_1 : AC := (.seq (.seq (.reg [] [(jm 13 5), ((jv 14 (.fld (.t 1) 0 0))), ((jv 15 (.load .s (.t 14)))), ((jv 16 (.bin .leq (.t 13) (.t 15))))] []) A5_2) A5_3)
def A5_17 : AC := (.seq (.reg [] [(jm 49 4), (jm 2 49), ((jv 3 (.mov (.k (.bool true)))))] []) .ret)
def A5_19 : AC := (.cond (.t 12) (.seq (.reg [] [((jv 2 (.mov (jn 0)))), ((jv 3 (.mov (.k (.bool false)))))] []) .ret) .skip)
def A5_22 : AC := (.block 0 (.loop A5_1))
def A5_21 : AC := (.seq (.seq (.reg [] [((jv 5 (.mov (jn 0))))] []) A5_22) A5_17)
def A5_20 : AC := (.seq (.reg [] [((jv 4 (.mov (jn 0))))] []) A5_21)
def A5_18 : AC := (.seq (.seq (.reg [] [((jv 10 (.load (.ag [.s, .p]) (.t 1)))), (.mk (some 11) none false (.call (.k (.fn 10 [] [])) [(.t 10)])), ((jv 12 (.un .not (.t 11))))] []) A5_19) A5_20)
def A5 : AC := (.seq (.reg [.clr [1]] [(.mk (some 1) none false (.box (.t 0))), ((jv 2 (.mov (jn 0)))), ((jv 3 (.mov (.k (.bool false)))))] []) A5_18)
def an5 : List An := [{ id := 0, pre := [.clr [1]], ep := [], lin := [], sp := [] }]
theorem c5 : cC Try.prog Try.f5.ntmps an5 (Try.f5.body.getD .skip) = some A5 := by kernel_rfl
structure H5 (D : Den) (σ : Sig) (F : Nat) : Prop where
  c10 : ∀ (x0 : (Int × (List (Int × Int)))) r, s_l2Good F x0 = some r → D 10 [Enc.enc x0] = some (Enc.enc (r : Bool))
  g10 : σ 10 = some (0, false)
  c11 : ∀ (x0 : Int) (x1 : Int) r, s_l2Bits F x0 x1 = some r → D 11 [Enc.enc x0, Enc.enc x1] = some (Enc.enc (r : (List Int)))
  g11 : σ 11 = some (0, false)
  c12 : ∀ (x0 : (Int × (List (Int × Int)))) (x1 : (List Int)) r, s_l6Front F x0 x1 = some r → D 12 [Enc.enc x0, Enc.enc x1] = some (Enc.enc (r : (List Int)))
  g12 : σ 12 = some (0, true)
  c13 : ∀ (x0 : Int) (x1 : Int) r, s_l1Most F x0 x1 = some r → D 13 [Enc.enc x0, Enc.enc x1] = some (Enc.enc (r : Int))
  g13 : σ 13 = some (0, false)
abbrev R5 (r : (Int × Bool)) : (Nat → V) → Prop := RR Try.prog [.tmp 2, .tmp 3] 0 false (.tup [Enc.enc (r.1 : Int), Enc.enc (r.2 : Bool)])
section
variable {D : Den} {σ : Sig} {F : Nat} {r : (Int × Bool)}
def s_FrontBound_j1 (F : Nat) (x_1 : (Int × (List (Int × Int)))) (x_21 : Int) (m_22 : Int) (x_47 : Int) (c1 : Int → Int → Option (Int × Bool)) (c4 : Int → Int → Option (Int × Bool)) (x_57 : Int) : Option (Int × Bool) :=
  c4 x_57 (w64 (x_47 + 1))
theorem t_f5_j1 (H : H5 D σ F) (x_1 : (Int × (List (Int × Int)))) (x_21 : Int) (m_22 : Int) (x_47 : Int) (c1 : Int → Int → Option (Int × Bool)) (Hc1 : ∀ (x_21 : Int) (m_22 : Int) (s : Nat → V), Facts [(1, (.ref (.bx 1) 0 [] (.agg [(ji x_1.1), (Enc.enc (x_1.2 : List (Int × Int)))]))), (2, (ji 0)), (3, (jb false)), (4, (ji x_21)), (5, (ji m_22))] s → c1 x_21 m_22 = some r → Run D σ (R5 r) (.run A5_1 [.lp A5_1, .bk 0, .sq A5_17]) s) (c4 : Int → Int → Option (Int × Bool)) (Hc4 : ∀ (x_46 : Int) (x_47 : Int) (s : Nat → V), Facts [(1, (.ref (.bx 1) 0 [] (.agg [(ji x_1.1), (Enc.enc (x_1.2 : List (Int × Int)))]))), (2, (ji 0)), (3, (jb false)), (4, (ji x_21)), (5, (ji m_22)), (6, (ji x_46)), (7, (ji x_47))] s → c4 x_46 x_47 = some r → Run D σ (R5 r) (.run A5_6 [.lp A5_6, .bk 2, .sq A5_15, .bk 1, .sq A5_16, .lp A5_1, .bk 0, .sq A5_17]) s) (x_57 : Int) (s : Nat → V) (hs : Facts [(1, (.ref (.bx 1) 0 [] (.agg [(ji x_1.1), (Enc.enc (x_1.2 : List (Int × Int)))]))), (2, (ji 0)), (3, (jb false)), (4, (ji x_21)), (5, (ji m_22)), (6, (ji x_57)), (7, (ji x_47))] s) (h : s_FrontBound_j1 F x_1 x_21 m_22 x_47 c1 c4 x_57 = some r) : Run D σ (R5 r) (.nrm [.bk 3, .sq A5_14, .lp A5_6, .bk 2, .sq A5_15, .bk 1, .sq A5_16, .lp A5_1, .bk 0, .sq A5_17]) s := by
  unfold s_FrontBound_j1 at h
  obtain ⟨h1, h2, h3, h4, h5, h6, h7⟩ := hs
  refine .nbk (.nsq (rg (gm h7 fun h24 => g1 24 (ji (w64 (x_47 + 1))) h24 fun h25 => ?_)))
  refine gm h25 fun h7 => gq (.nlp ?_)
  exact Hc4 x_57 (w64 (x_47 + 1)) _ ⟨h1, h2, h3, h4, h5, h6, h7⟩ h
def s_FrontBound_j2 (F : Nat) (x_1 : (Int × (List (Int × Int)))) (x_21 : Int) (m_22 : Int) (x_46 : Int) (x_47 : Int) (r_55 : (List Int)) (c1 : Int → Int → Option (Int × Bool)) (c4 : Int → Int → Option (Int × Bool)) (x_56 : Bool) : Option (Int × Bool) :=
  bif x_56 then
    s_FrontBound_j1 F x_1 x_21 m_22 x_47 c1 c4 (r_55.length : Int)
  else
    s_FrontBound_j1 F x_1 x_21 m_22 x_47 c1 c4 x_46
theorem t_f5_j2 (H : H5 D σ F) (x_1 : (Int × (List (Int × Int)))) (x_21 : Int) (m_22 : Int) (x_46 : Int) (x_47 : Int) (r_55 : (List Int)) (c1 : Int → Int → Option (Int × Bool)) (Hc1 : ∀ (x_21 : Int) (m_22 : Int) (s : Nat → V), Facts [(1, (.ref (.bx 1) 0 [] (.agg [(ji x_1.1), (Enc.enc (x_1.2 : List (Int × Int)))]))), (2, (ji 0)), (3, (jb false)), (4, (ji x_21)), (5, (ji m_22))] s → c1 x_21 m_22 = some r → Run D σ (R5 r) (.run A5_1 [.lp A5_1, .bk 0, .sq A5_17]) s) (c4 : Int → Int → Option (Int × Bool)) (Hc4 : ∀ (x_46 : Int) (x_47 : Int) (s : Nat → V), Facts [(1, (.ref (.bx 1) 0 [] (.agg [(ji x_1.1), (Enc.enc (x_1.2 : List (Int × Int)))]))), (2, (ji 0)), (3, (jb false)), (4, (ji x_21)), (5, (ji m_22)), (6, (ji x_46)), (7, (ji x_47))] s → c4 x_46 x_47 = some r → Run D σ (R5 r) (.run A5_6 [.lp A5_6, .bk 2, .sq A5_15, .bk 1, .sq A5_16, .lp A5_1, .bk 0, .sq A5_17]) s) (x_56 : Bool) (s : Nat → V) (hs : Facts [(1, (.ref (.bx 1) 0 [] (.agg [(ji x_1.1), (Enc.enc (x_1.2 : List (Int × Int)))]))), (2, (ji 0)), (3, (jb false)), (4, (ji x_21)), (5, (ji m_22)), (6, (ji x_46)), (7, (ji x_47)), (9, (ji (r_55.length : Int))), (44, (jb x_56))] s) (h : s_FrontBound_j2 F x_1 x_21 m_22 x_46 x_47 r_55 c1 c4 x_56 = some r) : Run D σ (R5 r) (.nrm [.sq A5_13, .bk 3, .sq A5_14, .lp A5_6, .bk 2, .sq A5_15, .bk 1, .sq A5_16, .lp A5_1, .bk 0, .sq A5_17]) s := by
  unfold s_FrontBound_j2 at h
  obtain ⟨h1, h2, h3, h4, h5, h6, h7, h9, h44⟩ := hs
  refine .nsq (run_cond (t := x_56) h44 h (fun h => ?_) (fun h => ?_))
  · refine rg (gm h9 fun h45 => gm h45 fun h6 => gq ?_)
    exact t_f5_j1 H x_1 x_21 m_22 x_47 c1 Hc1 c4 Hc4 (r_55.length : Int) _ ⟨h1, h2, h3, h4, h5, h6, h7⟩ h
  refine .skip ?_
  exact t_f5_j1 H x_1 x_21 m_22 x_47 c1 Hc1 c4 Hc4 x_46 _ ⟨h1, h2, h3, h4, h5, h6, h7⟩ h
def s_FrontBound_l1 (F : Nat) (x_1 : (Int × (List (Int × Int)))) (x_21 : Int) (m_22 : Int) (c1 : Int → Int → Option (Int × Bool)) : Nat → Int → Int → Option (Int × Bool)
  | 0, _, _ => none
  | k + 1, x_46, x_47 =>
    (shlI .i64 1 x_1.1).bind fun q_53 =>
    bif decide (x_47 < q_53) then
      (s_l2Bits F x_1.1 x_47).bind fun r_54 =>
      bif ((r_54.length : Int) != m_22) then
        (s_FrontBound_l1 F x_1 x_21 m_22 c1 k) x_46 (w64 (x_47 + 1))
      else
        (s_l6Front F x_1 r_54).bind fun r_55 =>
        bif decide (x_46 < 0) then
          s_FrontBound_j2 F x_1 x_21 m_22 x_46 x_47 r_55 c1 (s_FrontBound_l1 F x_1 x_21 m_22 c1 k) true
        else
          s_FrontBound_j2 F x_1 x_21 m_22 x_46 x_47 r_55 c1 (s_FrontBound_l1 F x_1 x_21 m_22 c1 k) (decide ((r_55.length : Int) < x_46))
    else
      (s_l1Most F x_21 x_46).bind fun r_58 =>
      c1 r_58 (w64 (m_22 + 1))
theorem t_f5_l1 (H : H5 D σ F) (x_1 : (Int × (List (Int × Int)))) (x_21 : Int) (m_22 : Int) (c1 : Int → Int → Option (Int × Bool)) (Hc1 : ∀ (x_21 : Int) (m_22 : Int) (s : Nat → V), Facts [(1, (.ref (.bx 1) 0 [] (.agg [(ji x_1.1), (Enc.enc (x_1.2 : List (Int × Int)))]))), (2, (ji 0)), (3, (jb false)), (4, (ji x_21)), (5, (ji m_22))] s → c1 x_21 m_22 = some r → Run D σ (R5 r) (.run A5_1 [.lp A5_1, .bk 0, .sq A5_17]) s) : ∀ (k : Nat) (x_46 : Int) (x_47 : Int) (s : Nat → V), Facts [(1, (.ref (.bx 1) 0 [] (.agg [(ji x_1.1), (Enc.enc (x_1.2 : List (Int × Int)))]))), (2, (ji 0)), (3, (jb false)), (4, (ji x_21)), (5, (ji m_22)), (6, (ji x_46)), (7, (ji x_47))] s → s_FrontBound_l1 F x_1 x_21 m_22 c1 k x_46 x_47 = some r → Run D σ (R5 r) (.run A5_6 [.lp A5_6, .bk 2, .sq A5_15, .bk 1, .sq A5_16, .lp A5_1, .bk 0, .sq A5_17]) s := by
  intro k
  induction k with
  | zero => intro x_46 x_47 s _ h; exact nomatch (h : (none : Option _) = some r)
  | succ k ih =>
    intro x_46 x_47 s hs h
    rw [s_FrontBound_l1] at h
    obtain ⟨h1, h2, h3, h4, h5, h6, h7⟩ := hs
    refine .seq (.seq (rg (gm h7 fun h19 => g1 1 (.ref (.bx 1) 0 [0] (ji x_1.1)) h1 fun h20 => ?_)))
    refine g1 20 (ji x_1.1) h20 fun h21 => ?_
    obtain ⟨q_53, E_q_53, h⟩ := bind_some h
    refine gv (ji q_53) (ev_shl rfl h21 E_q_53) fun h22 => ?_
    refine g2 19 22 (jb (decide (x_47 < q_53))) h19 h22 fun h23 => ?_
    refine gq (.nsq (run_cond (t := decide (x_47 < q_53)) h23 h (fun h => ?_) (fun h => ?_)))
    · refine .skip (.nsq (.seq (.block (.seq (rg (g1 1 (.ref (.bx 1) 0 [0] (ji x_1.1)) h1 fun h26 => ?_))))))
      refine g1 26 (ji x_1.1) h26 fun h27 => ?_
      refine gm h7 fun h28 => ?_
      obtain ⟨r_54, E_r_54, h⟩ := bind_some h
      refine g_call (m := 0) (al := false) (r := (Enc.enc (r_54 : (List Int)))) [Enc.enc (x_1.1 : Int), Enc.enc (x_47 : Int)] (ta_cons (v := (ji x_1.1)) h27 rfl rfl (ta_cons (v := (ji x_47)) h28 rfl rfl ta_nil)) (H.c11 _ _ _ E_r_54) H.g11 rfl rfl rfl rfl ?_
      refine gm (rfl : (_ : V) = (eL r_54)) fun h8 => ?_
      refine gq (.nsq (.seq (.seq (rg (gm h8 fun h30 => gv (ji (r_54.length : Int)) (ev_len (xs := r_54) h30) fun h31 => ?_)))))
      refine gm h5 fun h32 => g2 31 32 (jb ((r_54.length : Int) != m_22)) h31 h32 fun h33 => ?_
      refine gq (.nsq (run_cond (t := ((r_54.length : Int) != m_22)) h33 h (fun h => ?_) (fun h => ?_)))
      · refine .exit (.esq (.ebk (.nsq (rg (gm h7 fun h24 => g1 24 (ji (w64 (x_47 + 1))) h24 fun h25 => ?_)))))
        refine gm h25 fun h7 => gz [(1, _), (2, _), (3, _), (4, _), (5, _), (6, _), (7, _)] ⟨h1, h2, h3, h4, h5, h6, h7⟩ ?_
        rintro s ⟨h1, h2, h3, h4, h5, h6, h7⟩
        refine .nlp ?_
        exact ih x_46 (w64 (x_47 + 1)) _ ⟨h1, h2, h3, h4, h5, h6, h7⟩ h
      refine .skip (.nsq (.seq (rg (g1 1 (.agg [(ji x_1.1), (Enc.enc (x_1.2 : List (Int × Int)))]) h1 fun h34 => ?_))))
      refine gm h8 fun h35 => ?_
      obtain ⟨r_55, E_r_55, h⟩ := bind_some h
      refine g_call (m := 0) (al := true) (r := (Enc.enc (r_55 : (List Int)))) [Enc.enc (x_1 : (Int × (List (Int × Int)))), Enc.enc (r_54 : (List Int))] (ta_cons (v := (.agg [(ji x_1.1), (Enc.enc (x_1.2 : List (Int × Int)))])) h34 rfl (Enc.erase_enc (x_1 : (Int × (List (Int × Int))))) (ta_cons (v := (eL r_54)) h35 rfl (Enc.erase_enc (r_54 : (List Int))) ta_nil)) (H.c12 _ _ _ E_r_55) H.g12 (hal_of (ht_cons (v := (.agg [(ji x_1.1), (Enc.enc (x_1.2 : List (Int × Int)))])) h34 rfl rfl (ht_cons (v := (eL r_54)) h35 rfl rfl ht_nil))) rfl rfl rfl ?_
      refine gv (ji (r_55.length : Int)) (ev_len (xs := r_55) rfl) fun h37 => ?_
      refine gm h37 fun h9 => gz [(1, _), (2, _), (3, _), (4, _), (5, _), (6, _), (7, _), (9, _)] ⟨h1, h2, h3, h4, h5, h6, h7, h9⟩ ?_
      rintro s ⟨h1, h2, h3, h4, h5, h6, h7, h9⟩
      refine .nsq (.seq (rg (gm h6 fun h38 => g1 38 (jb (decide (x_46 < 0))) h38 fun h39 => ?_)))
      refine gm h39 fun h40 => split_on (c := decide (x_46 < 0)) h (fun hg3 h => ?_) (fun hg3 h => ?_)
      · refine g_no (h40.trans (congrArg V.bool hg3)) ?_
        refine g_no (h40.trans (congrArg V.bool hg3)) ?_
        refine g_no (h40.trans (congrArg V.bool hg3)) ?_
        refine g2 40 43 (jb true) (h40.trans (congrArg V.bool hg3)) (rfl : (_ : V) = (.tup [])) fun h44 => ?_
        refine gq ?_
        exact t_f5_j2 H x_1 x_21 m_22 x_46 x_47 r_55 c1 Hc1 (s_FrontBound_l1 F x_1 x_21 m_22 c1 k) ih true _ ⟨h1, h2, h3, h4, h5, h6, h7, h9, h44⟩ h
      refine g_yes (h40.trans (congrArg V.bool hg3)) (gm h9 fun h41 => ?_)
      refine g_yes (h40.trans (congrArg V.bool hg3)) (gm h6 fun h42 => ?_)
      refine g_yes (h40.trans (congrArg V.bool hg3)) (g2 41 42 (jb (decide ((r_55.length : Int) < x_46))) h41 h42 fun h43 => ?_)
      refine g2 40 43 (jb (decide ((r_55.length : Int) < x_46))) (h40.trans (congrArg V.bool hg3)) h43 fun h44 => ?_
      refine gq ?_
      exact t_f5_j2 H x_1 x_21 m_22 x_46 x_47 r_55 c1 Hc1 (s_FrontBound_l1 F x_1 x_21 m_22 c1 k) ih (decide ((r_55.length : Int) < x_46)) _ ⟨h1, h2, h3, h4, h5, h6, h7, h9, h44⟩ h
    refine .exit (.esq (.elp (.ebk (.nsq (rg (gm h4 fun h46 => gm h6 fun h47 => ?_))))))
    obtain ⟨r_58, E_r_58, h⟩ := bind_some h
    refine g_call (m := 0) (al := false) (r := (Enc.enc (r_58 : Int))) [Enc.enc (x_21 : Int), Enc.enc (x_46 : Int)] (ta_cons (v := (ji x_21)) h46 rfl rfl (ta_cons (v := (ji x_46)) h47 rfl rfl ta_nil)) (H.c13 _ _ _ E_r_58) H.g13 rfl rfl rfl rfl ?_
    refine gm (rfl : (_ : V) = (ji r_58)) fun h4 => ?_
    refine gq (.nbk (.nsq (rg (gm h5 fun h17 => g1 17 (ji (w64 (m_22 + 1))) h17 fun h18 => ?_))))
    refine gm h18 fun h5 => gq (.nlp ?_)
    exact Hc1 r_58 (w64 (m_22 + 1)) _ ⟨h1, h2, h3, h4, h5⟩ h
def s_FrontBound_l2 (F : Nat) (x_1 : (Int × (List (Int × Int))))  : Nat → Int → Int → Option (Int × Bool)
  | 0, _, _ => none
  | k + 1, x_21, m_22 =>
    bif decide (m_22 ≤ x_1.1) then
      s_FrontBound_l1 F x_1 x_21 m_22 (s_FrontBound_l2 F x_1 k) F (-1) 0
    else
      some (x_21, true)
theorem t_f5_l2 (H : H5 D σ F) (x_1 : (Int × (List (Int × Int))))  : ∀ (k : Nat) (x_21 : Int) (m_22 : Int) (s : Nat → V), Facts [(1, (.ref (.bx 1) 0 [] (.agg [(ji x_1.1), (Enc.enc (x_1.2 : List (Int × Int)))]))), (2, (ji 0)), (3, (jb false)), (4, (ji x_21)), (5, (ji m_22))] s → s_FrontBound_l2 F x_1 k x_21 m_22 = some r → Run D σ (R5 r) (.run A5_1 [.lp A5_1, .bk 0, .sq A5_17]) s := by
  intro k
  induction k with
  | zero => intro x_21 m_22 s _ h; exact nomatch (h : (none : Option _) = some r)
  | succ k ih =>
    intro x_21 m_22 s hs h
    rw [s_FrontBound_l2] at h
    obtain ⟨h1, h2, h3, h4, h5⟩ := hs
    refine .seq (.seq (rg (gm h5 fun h13 => g1 1 (.ref (.bx 1) 0 [0] (ji x_1.1)) h1 fun h14 => ?_)))
    refine g1 14 (ji x_1.1) h14 fun h15 => ?_
    refine g2 13 15 (jb (decide (m_22 ≤ x_1.1))) h13 h15 fun h16 => ?_
    refine gq (.nsq (run_cond (t := decide (m_22 ≤ x_1.1)) h16 h (fun h => ?_) (fun h => ?_)))
    · refine .skip (.nsq (.seq (.block (.seq (rg (g0 (ji (-1)) fun h6 => ?_))))))
      refine gq (.nsq (.seq (.seq (rg (g0 (ji 0) fun h7 => gq (.nsq (.block (.loop ?_))))))))
      exact t_f5_l1 H x_1 x_21 m_22 (s_FrontBound_l2 F x_1 k) ih F (-1) 0 _ ⟨h1, h2, h3, h4, h5, h6, h7⟩ h
    refine .exit (.esq (.elp (.ebk (.nsq (.seq (rg (gm h4 fun h49 => gm h49 fun h2 => g0 (jb true) fun h3 => ?_)))))))
    refine gq (.nsq (.ret ?_))
    have hr := Option.some.inj h
    subst hr
    exact rrB (res_tmp h2) (res_tmp h3) rfl
def s_FrontBound (F : Nat) (x_1 : (Int × (List (Int × Int)))) : Option (Int × Bool) :=
  (s_l2Good F x_1).bind fun r_2 =>
  bif (!r_2) then
    some (0, false)
  else
    s_FrontBound_l2 F x_1 F 0 0
theorem t5 (H : H5 D σ F) (x_1 : (Int × (List (Int × Int)))) (s : Nat → V) (hs : Facts [(0, (.agg [(ji x_1.1), (Enc.enc (x_1.2 : List (Int × Int)))]))] s) (h : s_FrontBound F x_1 = some r) : Run D σ (R5 r) (.run A5 []) s := by
  unfold s_FrontBound at h
  have h0 := hs
  refine .seq (run_reg ?_)
  refine e_clr ?_
  refine ez [(0, _), (1, _)] ⟨(keep_clear (pk := [1]) h0 rfl (map_agg (maps_cons mi (maps_cons me maps_nil)))), (gone_clear (pk := [1]) (t := 1) rfl)⟩ ?_
  rintro s ⟨h0, h1⟩
  refine g_box (.agg [(ji x_1.1), (Enc.enc (x_1.2 : List (Int × Int)))]) (rd_of h0 rfl) h1 rfl ?_
  refine g0 (ji 0) fun h2 => g0 (jb false) fun h3 => ?_
  refine gq (.nsq (.seq (.seq (rg (g1 1 (.agg [(ji x_1.1), (Enc.enc (x_1.2 : List (Int × Int)))]) (rfl : (_ : V) = (.ref (.bx 1) 0 [] (.agg [(ji x_1.1), (Enc.enc (x_1.2 : List (Int × Int)))]))) fun h10 => ?_)))))
  obtain ⟨r_2, E_r_2, h⟩ := bind_some h
  refine g_call (m := 0) (al := false) (r := (Enc.enc (r_2 : Bool))) [Enc.enc (x_1 : (Int × (List (Int × Int))))] (ta_cons (v := (.agg [(ji x_1.1), (Enc.enc (x_1.2 : List (Int × Int)))])) h10 rfl (Enc.erase_enc (x_1 : (Int × (List (Int × Int))))) ta_nil) (H.c10 _ _ E_r_2) H.g10 rfl rfl rfl rfl ?_
  refine g1 11 (jb (!r_2)) (rfl : (_ : V) = (jb r_2)) fun h12 => ?_
  refine gq (.nsq (run_cond (t := (!r_2)) h12 h (fun h => ?_) (fun h => ?_)))
  · refine .seq (rg (g0 (ji 0) fun h2 => g0 (jb false) fun h3 => ?_))
    refine gq (.nsq (.ret ?_))
    have hr := Option.some.inj h
    subst hr
    exact rrB (res_tmp h2) (res_tmp h3) rfl
  refine .skip (.nsq (.seq (rg (g0 (ji 0) fun h4 => gq (.nsq (.seq (.seq (rg (g0 (ji 0) fun h5 => gq (.nsq (.block (.loop ?_))))))))))))
  exact t_f5_l2 H x_1 F 0 0 _ ⟨rfl, h2, h3, h4, h5⟩ h
end
def e5 (F : Nat) : Ent := ent 5 (fun (x : ((Int × (List (Int × Int))) × Unit)) => s_FrontBound F x.1) (fun (r : (Int × Bool)) => (.tup [Enc.enc (r.1 : Int), Enc.enc (r.2 : Bool)])) 0 false []
theorem p5 {F : Nat} {x0 : (Int × (List (Int × Int)))} {r : (Int × Bool)} (h : s_FrontBound F x0 = some r) : (e5 F).den [Enc.enc x0] = some (.tup [Enc.enc (r.1 : Int), Enc.enc (r.2 : Bool)]) := ent_put (x0, ()) h
theorem o5 {D : Den} {σ : Sig} {F : Nat} (hF : Fits2 Try.prog D σ) (H : H5 D σ F) : (e5 F).Ok Try.prog := by
  refine ok_of (f := 5) (show unk 5 = 5 from rfl) (fun args r h => ?_) ⟨Try.f5, Try.func5, rfl, rfl⟩
  obtain ⟨⟨x0, _⟩, y, rfl, hy, rfl⟩ := da_open h
  exact contract_run hF (by kernel_rfl) Try.func5 rfl c5 (show 1 ≤ Try.f5.ntmps by decide) (t5 H x0 _ rfl hy)
/- loop.example/g01109/impl.within -/
def A29_1 : AC := (.seq (.reg [] [(jm 7 0), (jm 8 1), ((jv 9 (.bin .geq (.t 7) (.t 8)))), (jm 10 9), ((jg 11 10 true (.mov (.t 0)))), ((jg 12 10 true (.mov (.t 2)))), ((jg 13 10 true (.bin .leq (.t 11) (.t 12)))), ((jv 14 (.pick (.t 10) (.t 13) (.k (.bool false))))), (jm 6 14)] []) .ret)
def A29 : AC := (.seq (.reg [] [((jv 6 (.mov (.k (.bool false)))))] []) A29_1)
def an29 : List An := []
theorem c29 : cC Try.prog Try.f29.ntmps an29 (Try.f29.body.getD .skip) = some A29 := by kernel_rfl
structure H29 (D : Den) (σ : Sig) (F : Nat) : Prop where
  mk ::
abbrev R29 (r : Bool) : (Nat → V) → Prop := RR Try.prog [.tmp 6] 0 false (Enc.enc (r : Bool))
section
variable {D : Den} {σ : Sig} {F : Nat} {r : Bool}
def i_within (F : Nat) (x_1 : Int) (x_2 : Int) (x_3 : Int) : Option Bool :=
  bif decide (x_1 ≥ x_2) then
    some (decide (x_1 ≤ x_3))
  else
    some false
theorem t29 (H : H29 D σ F) (x_1 : Int) (x_2 : Int) (x_3 : Int) (s : Nat → V) (hs : Facts [(0, (ji x_1)), (1, (ji x_2)), (2, (ji x_3))] s) (h : i_within F x_1 x_2 x_3 = some r) : Run D σ (R29 r) (.run A29 []) s := by
  unfold i_within at h
  obtain ⟨h0, h1, h2⟩ := hs
  refine .seq (rg (g0 (jb false) fun h6 => ?_))
  refine gq (.nsq (.seq (rg (gm h0 fun h7 => gm h1 fun h8 => g2 7 8 (jb (decide (x_1 ≥ x_2))) h7 h8 fun h9 => ?_))))
  refine gm h9 fun h10 => split_on (c := decide (x_1 ≥ x_2)) h (fun hg4 h => ?_) (fun hg4 h => ?_)
  · refine g_yes (h10.trans (congrArg V.bool hg4)) (gm h0 fun h11 => ?_)
    refine g_yes (h10.trans (congrArg V.bool hg4)) (gm h2 fun h12 => ?_)
    refine g_yes (h10.trans (congrArg V.bool hg4)) (g2 11 12 (jb (decide (x_1 ≤ x_3))) h11 h12 fun h13 => ?_)
    refine g2 10 13 (jb (decide (x_1 ≤ x_3))) (h10.trans (congrArg V.bool hg4)) h13 fun h14 => ?_
    refine gm h14 fun h6 => gq (.nsq (.ret ?_))
    have hr := Option.some.inj h
    subst hr
    exact rrA (res_tmp h6) rfl
  refine g_no (h10.trans (congrArg V.bool hg4)) ?_
  refine g_no (h10.trans (congrArg V.bool hg4)) ?_
  refine g_no (h10.trans (congrArg V.bool hg4)) ?_
  refine g2 10 13 (jb false) (h10.trans (congrArg V.bool hg4)) (rfl : (_ : V) = (.tup [])) fun h14 => ?_
  refine gm h14 fun h6 => gq (.nsq (.ret ?_))
  have hr := Option.some.inj h
  subst hr
  exact rrA (res_tmp h6) rfl
end
def e29 (F : Nat) : Ent := ent 29 (fun (x : (Int × Int × Int × Unit)) => i_within F x.1 x.2.1 x.2.2.1) (fun (r : Bool) => (Enc.enc (r : Bool))) 0 false []
theorem p29 {F : Nat} {x0 : Int} {x1 : Int} {x2 : Int} {r : Bool} (h : i_within F x0 x1 x2 = some r) : (e29 F).den [Enc.enc x0, Enc.enc x1, Enc.enc x2] = some (Enc.enc (r : Bool)) := ent_put (x0, x1, x2, ()) h
theorem o29 {D : Den} {σ : Sig} {F : Nat} (hF : Fits2 Try.prog D σ) (H : H29 D σ F) : (e29 F).Ok Try.prog := by
  refine ok_of (f := 29) (show unk 29 = 29 from rfl) (fun args r h => ?_) ⟨Try.f29, Try.func29, rfl, rfl⟩
  obtain ⟨⟨x0, x1, x2, _⟩, y, rfl, hy, rfl⟩ := da_open h
  exact contract_run hF (by kernel_rfl) Try.func29 rfl c29 (show 3 ≤ Try.f29.ntmps by decide) (t29 H x0 x1 x2 _ ⟨rfl, rfl, rfl⟩ hy)
/- cmp.isNaN[int] -/
def A39_1 : AC := (.seq (.reg [] [(jm 3 0), (jm 4 0), ((jv 5 (.bin .neq (.t 3) (.t 4)))), (jm 2 5)] []) .ret)
def A39 : AC := (.seq (.reg [] [((jv 2 (.mov (.k (.bool false)))))] []) A39_1)
def an39 : List An := []
theorem c39 : cC Try.prog Try.f39.ntmps an39 (Try.f39.body.getD .skip) = some A39 := by kernel_rfl
structure H39 (D : Den) (σ : Sig) (F : Nat) : Prop where
  mk ::
abbrev R39 (r : Bool) : (Nat → V) → Prop := RR Try.prog [.tmp 2] 0 false (Enc.enc (r : Bool))
section
variable {D : Den} {σ : Sig} {F : Nat} {r : Bool}
def cmp_isNaN_int (F : Nat) (x_1 : Int) : Option Bool :=
  some (x_1 != x_1)
theorem t39 (H : H39 D σ F) (x_1 : Int) (s : Nat → V) (hs : Facts [(0, (ji x_1))] s) (h : cmp_isNaN_int F x_1 = some r) : Run D σ (R39 r) (.run A39 []) s := by
  unfold cmp_isNaN_int at h
  have h0 := hs
  refine .seq (rg (g0 (jb false) fun h2 => ?_))
  refine gq (.nsq (.seq (rg (gm h0 fun h3 => gm h0 fun h4 => g2 3 4 (jb (x_1 != x_1)) h3 h4 fun h5 => ?_))))
  refine gm h5 fun h2 => gq (.nsq (.ret ?_))
  have hr := Option.some.inj h
  subst hr
  exact rrA (res_tmp h2) rfl
end
def e39 (F : Nat) : Ent := ent 39 (fun (x : (Int × Unit)) => cmp_isNaN_int F x.1) (fun (r : Bool) => (Enc.enc (r : Bool))) 0 false []
theorem p39 {F : Nat} {x0 : Int} {r : Bool} (h : cmp_isNaN_int F x0 = some r) : (e39 F).den [Enc.enc x0] = some (Enc.enc (r : Bool)) := ent_put (x0, ()) h
theorem o39 {D : Den} {σ : Sig} {F : Nat} (hF : Fits2 Try.prog D σ) (H : H39 D σ F) : (e39 F).Ok Try.prog := by
  refine ok_of (f := 39) (show unk 39 = 39 from rfl) (fun args r h => ?_) ⟨Try.f39, Try.func39, rfl, rfl⟩
  obtain ⟨⟨x0, _⟩, y, rfl, hy, rfl⟩ := da_open h
  exact contract_run hF (by kernel_rfl) Try.func39 rfl c39 (show 1 ≤ Try.f39.ntmps by decide) (t39 H x0 _ rfl hy)
/- cmp.Compare[int] -/
def A36_5 : AC := (.cond (.t 12) (.seq (.reg [] [((jv 4 (.mov (jn 0))))] []) .ret) .skip)
def A36_6 : AC := (.seq (.reg [] [((jv 4 (.mov (jn (-1)))))] []) .ret)
def A36_4 : AC := (.cond (.t 11) (.seq (.seq (.reg [] [(jm 12 6)] []) A36_5) A36_6) .skip)
def A36_8 : AC := (.cond (.t 13) (.seq (.reg [] [((jv 4 (.mov (jn 1))))] []) .ret) .skip)
def A36_10 : AC := (.cond (.t 16) (.seq (.reg [] [((jv 4 (.mov (jn (-1)))))] []) .ret) .skip)
def A36_12 : AC := (.cond (.t 19) (.seq (.reg [] [((jv 4 (.mov (jn 1))))] []) .ret) .skip)
def A36_13 : AC := (.seq (.reg [] [((jv 4 (.mov (jn 0))))] []) .ret)
def A36_11 : AC := (.seq (.seq (.reg [] [(jm 17 0), (jm 18 1), ((jv 19 (.bin .gtr (.t 17) (.t 18))))] []) A36_12) A36_13)
def A36_9 : AC := (.seq (.seq (.reg [] [(jm 14 0), (jm 15 1), ((jv 16 (.bin .lss (.t 14) (.t 15))))] []) A36_10) A36_11)
def A36_7 : AC := (.seq (.seq (.reg [] [(jm 13 6)] []) A36_8) A36_9)
def A36_3 : AC := (.seq (.seq (.reg [] [(jm 11 5)] []) A36_4) A36_7)
def A36_2 : AC := (.seq (.reg [] [(jm 9 1), (.mk (some 10) none false (.call (.k (.fn 39 [] [])) [(.t 9)])), (jm 6 10)] []) A36_3)
def A36_1 : AC := (.seq (.reg [] [(jm 7 0), (.mk (some 8) none false (.call (.k (.fn 39 [] [])) [(.t 7)])), (jm 5 8)] []) A36_2)
def A36 : AC := (.seq (.reg [] [((jv 4 (.mov (jn 0))))] []) A36_1)
def an36 : List An := []
theorem c36 : cC Try.prog Try.f36.ntmps an36 (Try.f36.body.getD .skip) = some A36 := by kernel_rfl
structure H36 (D : Den) (σ : Sig) (F : Nat) : Prop where
  c39 : ∀ (x0 : Int) r, cmp_isNaN_int F x0 = some r → D 39 [Enc.enc x0] = some (Enc.enc (r : Bool))
  g39 : σ 39 = some (0, false)
abbrev R36 (r : Int) : (Nat → V) → Prop := RR Try.prog [.tmp 4] 0 false (Enc.enc (r : Int))
section
variable {D : Den} {σ : Sig} {F : Nat} {r : Int}
def cmp_Compare_int (F : Nat) (x_1 : Int) (x_2 : Int) : Option Int :=
  (cmp_isNaN_int F x_1).bind fun r_3 =>
  (cmp_isNaN_int F x_2).bind fun r_4 =>
  bif r_3 then
    bif r_4 then
      some 0
    else
      some (-1)
  else
    bif r_4 then
      some 1
    else
      bif decide (x_1 < x_2) then
        some (-1)
      else
        bif decide (x_1 > x_2) then
          some 1
        else
          some 0
theorem t36 (H : H36 D σ F) (x_1 : Int) (x_2 : Int) (s : Nat → V) (hs : Facts [(0, (ji x_1)), (1, (ji x_2))] s) (h : cmp_Compare_int F x_1 x_2 = some r) : Run D σ (R36 r) (.run A36 []) s := by
  unfold cmp_Compare_int at h
  obtain ⟨h0, h1⟩ := hs
  refine .seq (rg (g0 (ji 0) fun h4 => gq (.nsq (.seq (rg (gm h0 fun h7 => ?_))))))
  obtain ⟨r_3, E_r_3, h⟩ := bind_some h
  refine g_call (m := 0) (al := false) (r := (Enc.enc (r_3 : Bool))) [Enc.enc (x_1 : Int)] (ta_cons (v := (ji x_1)) h7 rfl rfl ta_nil) (H.c39 _ _ E_r_3) H.g39 rfl rfl rfl rfl ?_
  refine gm (rfl : (_ : V) = (jb r_3)) fun h5 => ?_
  refine gq (.nsq (.seq (rg (gm h1 fun h9 => ?_))))
  obtain ⟨r_4, E_r_4, h⟩ := bind_some h
  refine g_call (m := 0) (al := false) (r := (Enc.enc (r_4 : Bool))) [Enc.enc (x_2 : Int)] (ta_cons (v := (ji x_2)) h9 rfl rfl ta_nil) (H.c39 _ _ E_r_4) H.g39 rfl rfl rfl rfl ?_
  refine gm (rfl : (_ : V) = (jb r_4)) fun h6 => ?_
  refine gq (.nsq (.seq (.seq (rg (gm h5 fun h11 => gq (.nsq (run_cond (t := r_3) h11 h (fun h => ?_) (fun h => ?_))))))))
  · refine .seq (.seq (rg (gm h6 fun h12 => gq (.nsq (run_cond (t := r_4) h12 h (fun h => ?_) (fun h => ?_))))))
    · refine .seq (rg (g0 (ji 0) fun h4 => gq (.nsq (.ret ?_))))
      have hr := Option.some.inj h
      subst hr
      exact rrA (res_tmp h4) rfl
    refine .skip (.nsq (.seq (rg (g0 (ji (-1)) fun h4 => ?_))))
    refine gq (.nsq (.ret ?_))
    have hr := Option.some.inj h
    subst hr
    exact rrA (res_tmp h4) rfl
  refine .skip (.nsq (.seq (.seq (rg (gm h6 fun h13 => gq (.nsq (run_cond (t := r_4) h13 h (fun h => ?_) (fun h => ?_))))))))
  · refine .seq (rg (g0 (ji 1) fun h4 => gq (.nsq (.ret ?_))))
    have hr := Option.some.inj h
    subst hr
    exact rrA (res_tmp h4) rfl
  refine .skip (.nsq (.seq (.seq (rg (gm h0 fun h14 => gm h1 fun h15 => g2 14 15 (jb (decide (x_1 < x_2))) h14 h15 fun h16 => ?_)))))
  refine gq (.nsq (run_cond (t := decide (x_1 < x_2)) h16 h (fun h => ?_) (fun h => ?_)))
  · refine .seq (rg (g0 (ji (-1)) fun h4 => ?_))
    refine gq (.nsq (.ret ?_))
    have hr := Option.some.inj h
    subst hr
    exact rrA (res_tmp h4) rfl
  refine .skip (.nsq (.seq (.seq (rg (gm h0 fun h17 => gm h1 fun h18 => g2 17 18 (jb (decide (x_1 > x_2))) h17 h18 fun h19 => ?_)))))
  refine gq (.nsq (run_cond (t := decide (x_1 > x_2)) h19 h (fun h => ?_) (fun h => ?_)))
  · refine .seq (rg (g0 (ji 1) fun h4 => gq (.nsq (.ret ?_))))
    have hr := Option.some.inj h
    subst hr
    exact rrA (res_tmp h4) rfl
  refine .skip (.nsq (.seq (rg (g0 (ji 0) fun h4 => gq (.nsq (.ret ?_))))))
  have hr := Option.some.inj h
  subst hr
  exact rrA (res_tmp h4) rfl
end
def e36 (F : Nat) : Ent := ent 36 (fun (x : (Int × Int × Unit)) => cmp_Compare_int F x.1 x.2.1) (fun (r : Int) => (Enc.enc (r : Int))) 0 false []
theorem p36 {F : Nat} {x0 : Int} {x1 : Int} {r : Int} (h : cmp_Compare_int F x0 x1 = some r) : (e36 F).den [Enc.enc x0, Enc.enc x1] = some (Enc.enc (r : Int)) := ent_put (x0, x1, ()) h
theorem o36 {D : Den} {σ : Sig} {F : Nat} (hF : Fits2 Try.prog D σ) (H : H36 D σ F) : (e36 F).Ok Try.prog := by
  refine ok_of (f := 36) (show unk 36 = 36 from rfl) (fun args r h => ?_) ⟨Try.f36, Try.func36, rfl, rfl⟩
  obtain ⟨⟨x0, x1, _⟩, y, rfl, hy, rfl⟩ := da_open h
  exact contract_run hF (by kernel_rfl) Try.func36 rfl c36 (show 2 ≤ Try.f36.ntmps by decide) (t36 H x0 x1 _ ⟨rfl, rfl⟩ hy)
/- slices.Compare[[]int,int] -/
def A30_5 : AC := (.cond (.t 19) (.seq (.reg [] [((jv 4 (.mov (jn 1))))] []) .ret) .skip)
def A30_9 : AC := (.cond (.t 28) (.seq (.reg [] [(jm 29 8), (jm 4 29)] []) .ret) .skip)
def A30_8 : AC := (.seq (.reg [] [(jm 27 8), ((jv 28 (.bin .neq (.t 27) (jn 0))))] []) A30_9)
def A30_7 : AC := (.seq (.reg [] [(jm 24 6), (jm 25 7), (.mk (some 26) none false (.call (.k (.fn 36 [] [])) [(.t 24), (.t 25)])), (jm 8 26)] []) A30_8)
def A30_6 : AC := (.seq (.reg [] [(jm 20 1), (jm 21 5), ((jv 22 (.idx (.t 20) (.t 21) 1))), ((jv 23 (.load .s (.t 22)))), (jm 7 23)] []) A30_7)
def A30_4 : AC := (.seq (.seq (.reg [] [(jm 16 5), (jm 17 1), ((jv 18 (.len (.t 17)))), ((jv 19 (.bin .geq (.t 16) (.t 18))))] []) A30_5) A30_6)
def A30_10 : AC := (.reg [] [((jv 30 (.bin .add (.t 11) (jn 1)))), (jm 11 30)] [])
def A30_3 : AC := (.seq (.block 1 (.seq (.reg [] [(jm 13 11), ((jv 14 (.idx (.t 9) (.t 11) 1))), ((jv 15 (.load .s (.t 14)))), (jm 5 13), (jm 6 15)] []) A30_4)) A30_10)
def A30_2 : AC := (.seq (.cond (.t 12) .skip (.exit 0)) A30_3)
def A30_1 : AC := (.seq (.reg [] [((jv 12 (.bin .lss (.t 11) (.t 10))))] []) A30_2)
def A30_12 : AC := (.cond (.t 35) (.seq (.reg [] [((jv 4 (.mov (jn (-1)))))] []) .ret) .skip)
def A30_13 : AC := (.seq (.reg [] [((jv 4 (.mov (jn 0))))] []) .ret)
def A30_11 : AC := (.seq (.seq (.reg [] [(jm 31 0), ((jv 32 (.len (.t 31)))), (jm 33 1), ((jv 34 (.len (.t 33)))), ((jv 35 (.bin .lss (.t 32) (.t 34))))] []) A30_12) A30_13)
def A30_15 : AC := (.block 0 (.loop A30_1))
def A30_14 : AC := (.seq (.seq (.reg [] [(jm 9 0), ((jv 10 (.len (.t 9)))), ((jv 11 (.mov (jn 0))))] []) A30_15) A30_11)
def A30 : AC := (.seq (.reg [] [((jv 4 (.mov (jn 0))))] []) A30_14)
def an30 : List An := []
theorem c30 : cC Try.prog Try.f30.ntmps an30 (Try.f30.body.getD .skip) = some A30 := by kernel_rfl
structure H30 (D : Den) (σ : Sig) (F : Nat) : Prop where
  c36 : ∀ (x0 : Int) (x1 : Int) r, cmp_Compare_int F x0 x1 = some r → D 36 [Enc.enc x0, Enc.enc x1] = some (Enc.enc (r : Int))
  g36 : σ 36 = some (0, false)
abbrev R30 (r : Int) : (Nat → V) → Prop := RR Try.prog [.tmp 4] 0 false (Enc.enc (r : Int))
section
variable {D : Den} {σ : Sig} {F : Nat} {r : Int}
def slices_Compare_l1 (F : Nat) (x_1 : (List Int)) (x_2 : (List Int))  : Nat → Int → Option Int
  | 0, _ => none
  | k + 1, x_6 =>
    bif decide (x_6 < (x_1.length : Int)) then
      (idx x_1 x_6).bind fun e_10 =>
      bif decide (x_6 ≥ (x_2.length : Int)) then
        some 1
      else
        (idx x_2 x_6).bind fun e_11 =>
        (cmp_Compare_int F e_10 e_11).bind fun r_12 =>
        bif (r_12 != 0) then
          some r_12
        else
          (slices_Compare_l1 F x_1 x_2 k) (w64 (x_6 + 1))
    else
      bif decide ((x_1.length : Int) < (x_2.length : Int)) then
        some (-1)
      else
        some 0
theorem t_f30_l1 (H : H30 D σ F) (x_1 : (List Int)) (x_2 : (List Int))  : ∀ (k : Nat) (x_6 : Int) (s : Nat → V), Facts [(0, (eL x_1)), (1, (eL x_2)), (4, (ji 0)), (9, (eL x_1)), (10, (ji (x_1.length : Int))), (11, (ji x_6))] s → slices_Compare_l1 F x_1 x_2 k x_6 = some r → Run D σ (R30 r) (.run A30_1 [.lp A30_1, .bk 0, .sq A30_11]) s := by
  intro k
  induction k with
  | zero => intro x_6 s _ h; exact nomatch (h : (none : Option _) = some r)
  | succ k ih =>
    intro x_6 s hs h
    rw [slices_Compare_l1] at h
    obtain ⟨h0, h1, h4, h9, h10, h11⟩ := hs
    refine .seq (rg (g2 11 10 (jb (decide (x_6 < (x_1.length : Int)))) h11 h10 fun h12 => ?_))
    refine gq (.nsq (.seq (run_cond (t := decide (x_6 < (x_1.length : Int))) h12 h (fun h => ?_) (fun h => ?_))))
    · refine .skip (.nsq (.seq (.block (.seq (rg (gm h11 fun h13 => ?_))))))
      obtain ⟨e_10, E_e_10, h⟩ := bind_some h
      refine gv (.ref .sh 0 [] (ji e_10)) (ev_idx (t := .sh) (lo := 0) (xs := x_1) h9 h11 E_e_10 rfl rfl) fun h14 => ?_
      refine g1 14 (ji e_10) h14 fun h15 => ?_
      refine gm h13 fun h5 => gm h15 fun h6 => gq (.nsq (.seq (.seq (rg (gm h5 fun h16 => gm h1 fun h17 => gv (ji (x_2.length : Int)) (ev_len (xs := x_2) h17) fun h18 => ?_)))))
      refine g2 16 18 (jb (decide (x_6 ≥ (x_2.length : Int)))) h16 h18 fun h19 => ?_
      refine gq (.nsq (run_cond (t := decide (x_6 ≥ (x_2.length : Int))) h19 h (fun h => ?_) (fun h => ?_)))
      · refine .seq (rg (g0 (ji 1) fun h4 => gq (.nsq (.ret ?_))))
        have hr := Option.some.inj h
        subst hr
        exact rrA (res_tmp h4) rfl
      refine .skip (.nsq (.seq (rg (gm h1 fun h20 => gm h5 fun h21 => ?_))))
      obtain ⟨e_11, E_e_11, h⟩ := bind_some h
      refine gv (.ref .sh 0 [] (ji e_11)) (ev_idx (t := .sh) (lo := 0) (xs := x_2) h20 h21 E_e_11 rfl rfl) fun h22 => ?_
      refine g1 22 (ji e_11) h22 fun h23 => ?_
      refine gm h23 fun h7 => gq (.nsq (.seq (rg (gm h6 fun h24 => gm h7 fun h25 => ?_))))
      obtain ⟨r_12, E_r_12, h⟩ := bind_some h
      refine g_call (m := 0) (al := false) (r := (Enc.enc (r_12 : Int))) [Enc.enc (e_10 : Int), Enc.enc (e_11 : Int)] (ta_cons (v := (ji e_10)) h24 rfl rfl (ta_cons (v := (ji e_11)) h25 rfl rfl ta_nil)) (H.c36 _ _ _ E_r_12) H.g36 rfl rfl rfl rfl ?_
      refine gm (rfl : (_ : V) = (ji r_12)) fun h8 => ?_
      refine gq (.nsq (.seq (rg (gm h8 fun h27 => g1 27 (jb (r_12 != 0)) h27 fun h28 => ?_))))
      refine gq (.nsq (run_cond (t := (r_12 != 0)) h28 h (fun h => ?_) (fun h => ?_)))
      · refine .seq (rg (gm h8 fun h29 => gm h29 fun h4 => gq (.nsq (.ret ?_))))
        have hr := Option.some.inj h
        subst hr
        exact rrA (res_tmp h4) rfl
      refine .skip (.nbk (.nsq (rg (g1 11 (ji (w64 (x_6 + 1))) h11 fun h30 => ?_))))
      refine gm h30 fun h11 => gq (.nlp ?_)
      exact ih (w64 (x_6 + 1)) _ ⟨h0, h1, h4, h9, h10, h11⟩ h
    refine .exit (.esq (.elp (.ebk (.nsq (.seq (.seq (rg (gm h0 fun h31 => gv (ji (x_1.length : Int)) (ev_len (xs := x_1) h31) fun h32 => ?_))))))))
    refine gm h1 fun h33 => gv (ji (x_2.length : Int)) (ev_len (xs := x_2) h33) fun h34 => ?_
    refine g2 32 34 (jb (decide ((x_1.length : Int) < (x_2.length : Int)))) h32 h34 fun h35 => ?_
    refine gq (.nsq (run_cond (t := decide ((x_1.length : Int) < (x_2.length : Int))) h35 h (fun h => ?_) (fun h => ?_)))
    · refine .seq (rg (g0 (ji (-1)) fun h4 => ?_))
      refine gq (.nsq (.ret ?_))
      have hr := Option.some.inj h
      subst hr
      exact rrA (res_tmp h4) rfl
    refine .skip (.nsq (.seq (rg (g0 (ji 0) fun h4 => gq (.nsq (.ret ?_))))))
    have hr := Option.some.inj h
    subst hr
    exact rrA (res_tmp h4) rfl
def slices_Compare (F : Nat) (x_1 : (List Int)) (x_2 : (List Int)) : Option Int :=
  slices_Compare_l1 F x_1 x_2 F 0
theorem t30 (H : H30 D σ F) (x_1 : (List Int)) (x_2 : (List Int)) (s : Nat → V) (hs : Facts [(0, (eL x_1)), (1, (eL x_2))] s) (h : slices_Compare F x_1 x_2 = some r) : Run D σ (R30 r) (.run A30 []) s := by
  unfold slices_Compare at h
  obtain ⟨h0, h1⟩ := hs
  refine .seq (rg (g0 (ji 0) fun h4 => gq (.nsq (.seq (.seq (rg (gm h0 fun h9 => gv (ji (x_1.length : Int)) (ev_len (xs := x_1) h9) fun h10 => ?_)))))))
  refine g0 (ji 0) fun h11 => gq (.nsq (.block (.loop ?_)))
  exact t_f30_l1 H x_1 x_2 F 0 _ ⟨h0, h1, h4, h9, h10, h11⟩ h
end
def e30 (F : Nat) : Ent := ent 30 (fun (x : ((List Int) × (List Int) × Unit)) => slices_Compare F x.1 x.2.1) (fun (r : Int) => (Enc.enc (r : Int))) 0 false []
theorem p30 {F : Nat} {x0 : (List Int)} {x1 : (List Int)} {r : Int} (h : slices_Compare F x0 x1 = some r) : (e30 F).den [Enc.enc x0, Enc.enc x1] = some (Enc.enc (r : Int)) := ent_put (x0, x1, ()) h
theorem o30 {D : Den} {σ : Sig} {F : Nat} (hF : Fits2 Try.prog D σ) (H : H30 D σ F) : (e30 F).Ok Try.prog := by
  refine ok_of (f := 30) (show unk 30 = 30 from rfl) (fun args r h => ?_) ⟨Try.f30, Try.func30, rfl, rfl⟩
  obtain ⟨⟨x0, x1, _⟩, y, rfl, hy, rfl⟩ := da_open h
  exact contract_run hF (by kernel_rfl) Try.func30 rfl c30 (show 2 ≤ Try.f30.ntmps by decide) (t30 H x0 x1 _ ⟨rfl, rfl⟩ hy)
/- loop.example/g01109/impl.IsGraph -/
def A15_5 : AC := (.cond (.t 48) (.seq (.reg [] [((jv 2 (.mov (.k (.bool false)))))] []) .ret) .skip)
def A15_4 : AC := (.seq (.reg [] [((jv 17 (.idxA (.t 4) (jn 0) 2 1))), ((jv 18 (.load .s (.t 17)))), ((jv 19 (.bin .lss (.t 18) (jn 0)))), (jm 20 19), ((jg 21 20 false (.idxA (.t 4) (jn 0) 2 1))), ((jg 22 20 false (.load .s (.t 21)))), ((jg 23 20 false (.idxA (.t 4) (jn 1) 2 1))), ((jg 24 20 false (.load .s (.t 23)))), ((jg 25 20 false (.bin .geq (.t 22) (.t 24)))), ((jv 26 (.pick (.t 20) (.k (.bool true)) (.t 25)))), (jm 27 26), ((jg 28 27 false (.idxA (.t 4) (jn 1) 2 1))), ((jg 29 27 false (.load .s (.t 28)))), ((jg 30 27 false (.fld (.t 1) 0 0))), ((jg 31 27 false (.load .s (.t 30)))), ((jg 32 27 false (.bin .geq (.t 29) (.t 31)))), ((jv 33 (.pick (.t 27) (.k (.bool true)) (.t 32)))), (jm 34 33), ((jg 35 34 false (.mov (.t 3)))), ((jg 36 34 false (.bin .gtr (.t 35) (jn 0)))), ((jg 37 34 false (.mov (.t 36)))), ((jg 38 37 true (.fld (.t 1) 1 1))), ((jg 39 37 true (.load .p (.t 38)))), ((jg 40 37 true (.mov (.t 3)))), ((jg 41 37 true (.bin .sub (.t 40) (jn 1)))), ((jg 42 37 true (.idx (.t 39) (.t 41) 2))), ((jg 43 37 true (.sliceA (.t 42) 2 .s))), ((jg 44 37 true (.sliceA (.t 4) 2 .s))), (.mk (some 45) (some (37, true)) false (.call (.k (.fn 30 [] [])) [(.t 43), (.t 44)])), ((jg 46 37 true (.bin .geq (.t 45) (jn 0)))), ((jg 47 34 false (.pick (.t 37) (.t 46) (.k (.bool false))))), ((jv 48 (.pick (.t 34) (.k (.bool true)) (.t 47))))] []) A15_5)
def A15_6 : AC := (.reg [] [((jv 49 (.bin .add (.t 12) (jn 1)))), (jm 12 49)] [])
def A15_3 : AC := (.seq (.block 1 (.seq (.reg [.clr [4]] [(jm 14 12), ((jv 15 (.idx (.t 10) (.t 12) 2))), ((jv 16 (.load (.ag [.s, .s]) (.t 15)))), (.mk (some 4) none false (.alloc (.agg [(.int .i64 (.ofNat 0)), (.int .i64 (.ofNat 0))]))), (jm 3 14), (.mk none none false (.store (.ag [.s, .s]) (.t 4) (.t 16)))] []) A15_4)) A15_6)
def A15_2 : AC := (.seq (.cond (.t 13) .skip (.exit 0)) A15_3)
def A15_1 : AC := (.seq (.reg [] [((jv 13 (.bin .lss (.t 12) (.t 11))))] []) A15_2)
def A15_7 : AC := (.seq (.reg [] [((jv 2 (.mov (.k (.bool true)))))] []) .ret)
def A15_9 : AC := (.cond (.t 8) (.seq (.reg [] [((jv 2 (.mov (.k (.bool false)))))] []) .ret) .skip)
def A15_11 : AC := (.block 0 (.loop A15_1))
def A15_10 : AC := (.seq (.seq (.reg [] [((jv 9 (.fld (.t 1) 1 1))), ((jv 10 (.load .p (.t 9)))), ((jv 11 (.len (.t 10)))), ((jv 12 (.mov (jn 0))))] []) A15_11) A15_7)
def A15_8 : AC := (.seq (.seq (.reg [] [((jv 5 (.fld (.t 1) 0 0))), ((jv 6 (.load .s (.t 5)))), (.mk (some 7) none false (.call (.k (.fn 29 [] [])) [(.t 6), (jn 0), (jn 8)])), ((jv 8 (.un .not (.t 7))))] []) A15_9) A15_10)
def A15 : AC := (.seq (.reg [.clr [1]] [(.mk (some 1) none false (.box (.t 0))), ((jv 2 (.mov (.k (.bool false)))))] []) A15_8)
def an15 : List An := [{ id := 0, pre := [.clr [1]], ep := [], lin := [], sp := [] }, { id := 5, pre := [.clr [4]], ep := [], lin := [], sp := [] }]
theorem c15 : cC Try.prog Try.f15.ntmps an15 (Try.f15.body.getD .skip) = some A15 := by kernel_rfl
structure H15 (D : Den) (σ : Sig) (F : Nat) : Prop where
  c29 : ∀ (x0 : Int) (x1 : Int) (x2 : Int) r, i_within F x0 x1 x2 = some r → D 29 [Enc.enc x0, Enc.enc x1, Enc.enc x2] = some (Enc.enc (r : Bool))
  g29 : σ 29 = some (0, false)
  c30 : ∀ (x0 : (List Int)) (x1 : (List Int)) r, slices_Compare F x0 x1 = some r → D 30 [Enc.enc x0, Enc.enc x1] = some (Enc.enc (r : Int))
  g30 : σ 30 = some (0, false)
abbrev R15 (r : Bool) : (Nat → V) → Prop := RR Try.prog [.tmp 2] 0 false (Enc.enc (r : Bool))
section
variable {D : Den} {σ : Sig} {F : Nat} {r : Bool}
def i_IsGraph_j1 (F : Nat) (x_1 : (Int × (List (Int × Int)))) (x_9 : Int) (c1 : Int → Option Bool) (x_19 : Bool) : Option Bool :=
  bif x_19 then
    some false
  else
    c1 (w64 (x_9 + 1))
theorem t_f15_j1 (H : H15 D σ F) (x_1 : (Int × (List (Int × Int)))) (x_9 : Int) (c1 : Int → Option Bool) (Hc1 : ∀ (x_9 : Int) (s : Nat → V), Facts [(1, (.ref (.bx 1) 0 [] (.agg [(ji x_1.1), (Enc.enc (x_1.2 : List (Int × Int)))]))), (2, (jb false)), (10, (Enc.enc (x_1.2 : List (Int × Int)))), (11, (ji (x_1.2.length : Int))), (12, (ji x_9))] s → c1 x_9 = some r → Run D σ (R15 r) (.run A15_1 [.lp A15_1, .bk 0, .sq A15_7]) s) (x_19 : Bool) (s : Nat → V) (hs : Facts [(1, (.ref (.bx 1) 0 [] (.agg [(ji x_1.1), (Enc.enc (x_1.2 : List (Int × Int)))]))), (2, (jb false)), (10, (Enc.enc (x_1.2 : List (Int × Int)))), (11, (ji (x_1.2.length : Int))), (12, (ji x_9)), (48, (jb x_19))] s) (h : i_IsGraph_j1 F x_1 x_9 c1 x_19 = some r) : Run D σ (R15 r) (.nrm [.sq A15_5, .bk 1, .sq A15_6, .lp A15_1, .bk 0, .sq A15_7]) s := by
  unfold i_IsGraph_j1 at h
  obtain ⟨h1, h2, h10, h11, h12, h48⟩ := hs
  refine .nsq (run_cond (t := x_19) h48 h (fun h => ?_) (fun h => ?_))
  · refine .seq (rg (g0 (jb false) fun h2 => ?_))
    refine gq (.nsq (.ret ?_))
    have hr := Option.some.inj h
    subst hr
    exact rrA (res_tmp h2) rfl
  refine .skip (.nbk (.nsq (rg (g1 12 (ji (w64 (x_9 + 1))) h12 fun h49 => ?_))))
  refine gm h49 fun h12 => gq (.nlp ?_)
  exact Hc1 (w64 (x_9 + 1)) _ ⟨h1, h2, h10, h11, h12⟩ h
def i_IsGraph_l1 (F : Nat) (x_1 : (Int × (List (Int × Int))))  : Nat → Int → Option Bool
  | 0, _ => none
  | k + 1, x_9 =>
    bif decide (x_9 < (x_1.2.length : Int)) then
      (idx x_1.2 x_9).bind fun e_16 =>
      bif decide (e_16.1 < 0) then
        i_IsGraph_j1 F x_1 x_9 (i_IsGraph_l1 F x_1 k) true
      else
        bif decide (e_16.1 ≥ e_16.2) then
          i_IsGraph_j1 F x_1 x_9 (i_IsGraph_l1 F x_1 k) true
        else
          bif decide (e_16.2 ≥ x_1.1) then
            i_IsGraph_j1 F x_1 x_9 (i_IsGraph_l1 F x_1 k) true
          else
            bif decide (x_9 > 0) then
              (idx x_1.2 (w64 (x_9 - 1))).bind fun e_20 =>
              (slices_Compare F [e_20.1, e_20.2] [e_16.1, e_16.2]).bind fun r_21 =>
              i_IsGraph_j1 F x_1 x_9 (i_IsGraph_l1 F x_1 k) (decide (r_21 ≥ 0))
            else
              i_IsGraph_j1 F x_1 x_9 (i_IsGraph_l1 F x_1 k) false
    else
      some true
theorem t_f15_l1 (H : H15 D σ F) (x_1 : (Int × (List (Int × Int))))  : ∀ (k : Nat) (x_9 : Int) (s : Nat → V), Facts [(1, (.ref (.bx 1) 0 [] (.agg [(ji x_1.1), (Enc.enc (x_1.2 : List (Int × Int)))]))), (2, (jb false)), (10, (Enc.enc (x_1.2 : List (Int × Int)))), (11, (ji (x_1.2.length : Int))), (12, (ji x_9))] s → i_IsGraph_l1 F x_1 k x_9 = some r → Run D σ (R15 r) (.run A15_1 [.lp A15_1, .bk 0, .sq A15_7]) s := by
  intro k
  induction k with
  | zero => intro x_9 s _ h; exact nomatch (h : (none : Option _) = some r)
  | succ k ih =>
    intro x_9 s hs h
    rw [i_IsGraph_l1] at h
    obtain ⟨h1, h2, h10, h11, h12⟩ := hs
    refine .seq (rg (g2 12 11 (jb (decide (x_9 < (x_1.2.length : Int)))) h12 h11 fun h13 => ?_))
    refine gq (.nsq (.seq (run_cond (t := decide (x_9 < (x_1.2.length : Int))) h13 h (fun h => ?_) (fun h => ?_))))
    · refine .skip (.nsq (.seq (.block (.seq (run_reg ?_)))))
      refine e_clr ?_
      refine ez [(1, _), (2, _), (4, _), (10, _), (11, _), (12, _)] ⟨(keep_clear (pk := [4]) h1 rfl (map_bx rfl (map_agg (maps_cons mi (maps_cons me maps_nil))))), (keep_clear (pk := [4]) h2 rfl mb), (gone_clear (pk := [4]) (t := 4) rfl), (keep_clear (pk := [4]) h10 rfl me), (keep_clear (pk := [4]) h11 rfl mi), (keep_clear (pk := [4]) h12 rfl mi)⟩ ?_
      rintro s ⟨h1, h2, h4, h10, h11, h12⟩
      refine gm h12 fun h14 => ?_
      obtain ⟨e_16, E_e_16, h⟩ := bind_some h
      refine gv (.ref .sh 0 [] (.agg [(ji e_16.1), (ji e_16.2)])) (ev_idx (t := .sh) (lo := 0) (xs := x_1.2) h10 h12 E_e_16 rfl rfl) fun h15 => ?_
      refine g1 15 (.agg [(ji e_16.1), (ji e_16.2)]) h15 fun h16 => ?_
      refine g_alloc h4 ?_
      refine gm h14 fun h3 => g_store (.agg [(ji e_16.1), (ji e_16.2)]) (rd_of rfl rfl) (rd_of h16 rfl) (by refine ⟨by decide, by decide, rfl, rfl, rfl, ?_⟩; first | rfl | simp [V.toks, V.tokss, Enc.toks_enc]) ?_
      refine gz [(1, (.ref (.bx 1) 0 [] (.agg [(ji x_1.1), (Enc.enc (x_1.2 : List (Int × Int)))]))), (2, (jb false)), (3, (ji x_9)), (4, (.ref (.bx 4) 0 [] (.agg [(ji e_16.1), (ji e_16.2)]))), (10, (Enc.enc (x_1.2 : List (Int × Int)))), (11, (ji (x_1.2.length : Int))), (12, (ji x_9))] ⟨(keep_mut h1 (mut_ref_ne rfl rfl (mut_agg (muts_cons rfl (muts_cons (Enc.mut_enc _ _ _ _ (x_1.2 : List (Int × Int))) rfl))))), (keep_mut h2 rfl), (keep_mut h3 rfl), (keep_mut rfl rfl), (keep_mut h10 (Enc.mut_enc _ _ _ _ (x_1.2 : List (Int × Int)))), (keep_mut h11 rfl), (keep_mut h12 rfl)⟩ ?_
      rintro s ⟨h1, h2, h3, h4, h10, h11, h12⟩
      refine .nsq (.seq (rg (g1 4 (.ref (.bx 4) 0 [0] (ji e_16.1)) h4 fun h17 => ?_)))
      refine g1 17 (ji e_16.1) h17 fun h18 => ?_
      refine g1 18 (jb (decide (e_16.1 < 0))) h18 fun h19 => ?_
      refine gm h19 fun h20 => split_on (c := decide (e_16.1 < 0)) h (fun hg4 h => ?_) (fun hg4 h => ?_)
      · refine g_no (h20.trans (congrArg V.bool hg4)) ?_
        refine g_no (h20.trans (congrArg V.bool hg4)) ?_
        refine g_no (h20.trans (congrArg V.bool hg4)) ?_
        refine g_no (h20.trans (congrArg V.bool hg4)) ?_
        refine g_no (h20.trans (congrArg V.bool hg4)) ?_
        refine g2 20 25 (jb true) (h20.trans (congrArg V.bool hg4)) (rfl : (_ : V) = (.tup [])) fun h26 => ?_
        refine gm h26 fun h27 => g_no h27 ?_
        refine g_no h27 ?_
        refine g_no h27 ?_
        refine g_no h27 ?_
        refine g_no h27 ?_
        refine g2 27 32 (jb true) h27 (rfl : (_ : V) = (.tup [])) fun h33 => ?_
        refine gm h33 fun h34 => g_no h34 ?_
        refine g_no h34 ?_
        refine g_no h34 ?_
        refine g_skip rfl ?_
        refine g_skip rfl ?_
        refine g_skip rfl ?_
        refine g_skip rfl ?_
        refine g_skip rfl ?_
        refine g_skip rfl ?_
        refine g_skip rfl ?_
        refine g_skip rfl ?_
        refine g_skip rfl ?_
        refine g_no h34 ?_
        refine g2 34 47 (jb true) h34 (rfl : (_ : V) = (.tup [])) fun h48 => ?_
        refine gz [(1, _), (2, _), (10, _), (11, _), (12, _), (48, _)] ⟨h1, h2, h10, h11, h12, h48⟩ ?_
        rintro s ⟨h1, h2, h10, h11, h12, h48⟩
        exact t_f15_j1 H x_1 x_9 (i_IsGraph_l1 F x_1 k) ih true _ ⟨h1, h2, h10, h11, h12, h48⟩ h
      refine g_yes (h20.trans (congrArg V.bool hg4)) (g1 4 (.ref (.bx 4) 0 [0] (ji e_16.1)) h4 fun h21 => ?_)
      refine g_yes (h20.trans (congrArg V.bool hg4)) (g1 21 (ji e_16.1) h21 fun h22 => ?_)
      refine g_yes (h20.trans (congrArg V.bool hg4)) (g1 4 (.ref (.bx 4) 0 [1] (ji e_16.2)) h4 fun h23 => ?_)
      refine g_yes (h20.trans (congrArg V.bool hg4)) (g1 23 (ji e_16.2) h23 fun h24 => ?_)
      refine g_yes (h20.trans (congrArg V.bool hg4)) (g2 22 24 (jb (decide (e_16.1 ≥ e_16.2))) h22 h24 fun h25 => ?_)
      refine g2 20 25 (jb (decide (e_16.1 ≥ e_16.2))) (h20.trans (congrArg V.bool hg4)) h25 fun h26 => ?_
      refine gm h26 fun h27 => split_on (c := decide (e_16.1 ≥ e_16.2)) h (fun hg11 h => ?_) (fun hg11 h => ?_)
      · refine g_no (h27.trans (congrArg V.bool hg11)) ?_
        refine g_no (h27.trans (congrArg V.bool hg11)) ?_
        refine g_no (h27.trans (congrArg V.bool hg11)) ?_
        refine g_no (h27.trans (congrArg V.bool hg11)) ?_
        refine g_no (h27.trans (congrArg V.bool hg11)) ?_
        refine g2 27 32 (jb true) (h27.trans (congrArg V.bool hg11)) (rfl : (_ : V) = (.tup [])) fun h33 => ?_
        refine gm h33 fun h34 => g_no h34 ?_
        refine g_no h34 ?_
        refine g_no h34 ?_
        refine g_skip rfl ?_
        refine g_skip rfl ?_
        refine g_skip rfl ?_
        refine g_skip rfl ?_
        refine g_skip rfl ?_
        refine g_skip rfl ?_
        refine g_skip rfl ?_
        refine g_skip rfl ?_
        refine g_skip rfl ?_
        refine g_no h34 ?_
        refine g2 34 47 (jb true) h34 (rfl : (_ : V) = (.tup [])) fun h48 => ?_
        refine gz [(1, _), (2, _), (10, _), (11, _), (12, _), (48, _)] ⟨h1, h2, h10, h11, h12, h48⟩ ?_
        rintro s ⟨h1, h2, h10, h11, h12, h48⟩
        exact t_f15_j1 H x_1 x_9 (i_IsGraph_l1 F x_1 k) ih true _ ⟨h1, h2, h10, h11, h12, h48⟩ h
      refine g_yes (h27.trans (congrArg V.bool hg11)) (g1 4 (.ref (.bx 4) 0 [1] (ji e_16.2)) h4 fun h28 => ?_)
      refine g_yes (h27.trans (congrArg V.bool hg11)) (g1 28 (ji e_16.2) h28 fun h29 => ?_)
      refine g_yes (h27.trans (congrArg V.bool hg11)) (g1 1 (.ref (.bx 1) 0 [0] (ji x_1.1)) h1 fun h30 => ?_)
      refine g_yes (h27.trans (congrArg V.bool hg11)) (g1 30 (ji x_1.1) h30 fun h31 => ?_)
      refine g_yes (h27.trans (congrArg V.bool hg11)) (g2 29 31 (jb (decide (e_16.2 ≥ x_1.1))) h29 h31 fun h32 => ?_)
      refine g2 27 32 (jb (decide (e_16.2 ≥ x_1.1))) (h27.trans (congrArg V.bool hg11)) h32 fun h33 => ?_
      refine gm h33 fun h34 => split_on (c := decide (e_16.2 ≥ x_1.1)) h (fun hg18 h => ?_) (fun hg18 h => ?_)
      · refine g_no (h34.trans (congrArg V.bool hg18)) ?_
        refine g_no (h34.trans (congrArg V.bool hg18)) ?_
        refine g_no (h34.trans (congrArg V.bool hg18)) ?_
        refine g_skip rfl ?_
        refine g_skip rfl ?_
        refine g_skip rfl ?_
        refine g_skip rfl ?_
        refine g_skip rfl ?_
        refine g_skip rfl ?_
        refine g_skip rfl ?_
        refine g_skip rfl ?_
        refine g_skip rfl ?_
        refine g_no (h34.trans (congrArg V.bool hg18)) ?_
        refine g2 34 47 (jb true) (h34.trans (congrArg V.bool hg18)) (rfl : (_ : V) = (.tup [])) fun h48 => ?_
        refine gz [(1, _), (2, _), (10, _), (11, _), (12, _), (48, _)] ⟨h1, h2, h10, h11, h12, h48⟩ ?_
        rintro s ⟨h1, h2, h10, h11, h12, h48⟩
        exact t_f15_j1 H x_1 x_9 (i_IsGraph_l1 F x_1 k) ih true _ ⟨h1, h2, h10, h11, h12, h48⟩ h
      refine g_yes (h34.trans (congrArg V.bool hg18)) (gm h3 fun h35 => ?_)
      refine g_yes (h34.trans (congrArg V.bool hg18)) (g1 35 (jb (decide (x_9 > 0))) h35 fun h36 => ?_)
      refine g_yes (h34.trans (congrArg V.bool hg18)) (gm h36 fun h37 => ?_)
      refine split_on (c := decide (x_9 > 0)) h (fun hg21 h => ?_) (fun hg21 h => ?_)
      · refine g_yes (h37.trans (congrArg V.bool hg21)) (g1 1 (.ref (.bx 1) 0 [1] (Enc.enc (x_1.2 : List (Int × Int)))) h1 fun h38 => ?_)
        refine g_yes (h37.trans (congrArg V.bool hg21)) (g1 38 (Enc.enc (x_1.2 : List (Int × Int))) h38 fun h39 => ?_)
        refine g_yes (h37.trans (congrArg V.bool hg21)) (gm h3 fun h40 => ?_)
        refine g_yes (h37.trans (congrArg V.bool hg21)) (g1 40 (ji (w64 (x_9 - 1))) h40 fun h41 => ?_)
        obtain ⟨e_20, E_e_20, h⟩ := bind_some h
        refine g_yes (h37.trans (congrArg V.bool hg21)) (gv (.ref .sh 0 [] (.agg [(ji e_20.1), (ji e_20.2)])) (ev_idx (t := .sh) (lo := 0) (xs := x_1.2) h39 h41 E_e_20 rfl rfl) fun h42 => ?_)
        refine g_yes (h37.trans (congrArg V.bool hg21)) (g1 42 (eL [e_20.1, e_20.2]) h42 fun h43 => ?_)
        refine g_yes (h37.trans (congrArg V.bool hg21)) (g1 4 (encO (.bx 4) (.of ([e_16.1, e_16.2] : List Int))) h4 fun h44 => ?_)
        obtain ⟨r_21, E_r_21, h⟩ := bind_some h
        refine g_yes (h37.trans (congrArg V.bool hg21)) (g_call (m := 0) (al := false) (r := (Enc.enc (r_21 : Int))) [Enc.enc ([e_20.1, e_20.2] : (List Int)), Enc.enc ([e_16.1, e_16.2] : (List Int))] (ta_cons (v := (eL [e_20.1, e_20.2])) h43 rfl (Enc.erase_enc ([e_20.1, e_20.2] : (List Int))) (ta_cons (v := (encO (.bx 4) (.of ([e_16.1, e_16.2] : List Int)))) h44 rfl (erase_encO (o := .of [e_16.1, e_16.2])) ta_nil)) (H.c30 _ _ _ E_r_21) H.g30 rfl rfl rfl rfl ?_)
        refine g_yes (h37.trans (congrArg V.bool hg21)) (g1 45 (jb (decide (r_21 ≥ 0))) (rfl : (_ : V) = (ji r_21)) fun h46 => ?_)
        refine g_yes (h34.trans (congrArg V.bool hg18)) (g2 37 46 (jb (decide (r_21 ≥ 0))) (h37.trans (congrArg V.bool hg21)) h46 fun h47 => ?_)
        refine g2 34 47 (jb (decide (r_21 ≥ 0))) (h34.trans (congrArg V.bool hg18)) h47 fun h48 => ?_
        refine gz [(1, _), (2, _), (10, _), (11, _), (12, _), (48, _)] ⟨h1, h2, h10, h11, h12, h48⟩ ?_
        rintro s ⟨h1, h2, h10, h11, h12, h48⟩
        exact t_f15_j1 H x_1 x_9 (i_IsGraph_l1 F x_1 k) ih (decide (r_21 ≥ 0)) _ ⟨h1, h2, h10, h11, h12, h48⟩ h
      refine g_no (h37.trans (congrArg V.bool hg21)) ?_
      refine g_no (h37.trans (congrArg V.bool hg21)) ?_
      refine g_no (h37.trans (congrArg V.bool hg21)) ?_
      refine g_no (h37.trans (congrArg V.bool hg21)) ?_
      refine g_no (h37.trans (congrArg V.bool hg21)) ?_
      refine g_no (h37.trans (congrArg V.bool hg21)) ?_
      refine g_no (h37.trans (congrArg V.bool hg21)) ?_
      refine g_no (h37.trans (congrArg V.bool hg21)) ?_
      refine g_no (h37.trans (congrArg V.bool hg21)) ?_
      refine g_yes (h34.trans (congrArg V.bool hg18)) (g2 37 46 (jb false) (h37.trans (congrArg V.bool hg21)) (rfl : (_ : V) = (.tup [])) fun h47 => ?_)
      refine g2 34 47 (jb false) (h34.trans (congrArg V.bool hg18)) h47 fun h48 => ?_
      refine gz [(1, _), (2, _), (10, _), (11, _), (12, _), (48, _)] ⟨h1, h2, h10, h11, h12, h48⟩ ?_
      rintro s ⟨h1, h2, h10, h11, h12, h48⟩
      exact t_f15_j1 H x_1 x_9 (i_IsGraph_l1 F x_1 k) ih false _ ⟨h1, h2, h10, h11, h12, h48⟩ h
    refine .exit (.esq (.elp (.ebk (.nsq (.seq (rg (g0 (jb true) fun h2 => ?_)))))))
    refine gq (.nsq (.ret ?_))
    have hr := Option.some.inj h
    subst hr
    exact rrA (res_tmp h2) rfl
def i_IsGraph (F : Nat) (x_1 : (Int × (List (Int × Int)))) : Option Bool :=
  (i_within F x_1.1 0 8).bind fun r_2 =>
  bif (!r_2) then
    some false
  else
    i_IsGraph_l1 F x_1 F 0
theorem t15 (H : H15 D σ F) (x_1 : (Int × (List (Int × Int)))) (s : Nat → V) (hs : Facts [(0, (.agg [(ji x_1.1), (Enc.enc (x_1.2 : List (Int × Int)))]))] s) (h : i_IsGraph F x_1 = some r) : Run D σ (R15 r) (.run A15 []) s := by
  unfold i_IsGraph at h
  have h0 := hs
  refine .seq (run_reg ?_)
  refine e_clr ?_
  refine ez [(0, _), (1, _)] ⟨(keep_clear (pk := [1]) h0 rfl (map_agg (maps_cons mi (maps_cons me maps_nil)))), (gone_clear (pk := [1]) (t := 1) rfl)⟩ ?_
  rintro s ⟨h0, h1⟩
  refine g_box (.agg [(ji x_1.1), (Enc.enc (x_1.2 : List (Int × Int)))]) (rd_of h0 rfl) h1 rfl ?_
  refine g0 (jb false) fun h2 => ?_
  refine gq (.nsq (.seq (.seq (rg (g1 1 (.ref (.bx 1) 0 [0] (ji x_1.1)) (rfl : (_ : V) = (.ref (.bx 1) 0 [] (.agg [(ji x_1.1), (Enc.enc (x_1.2 : List (Int × Int)))]))) fun h5 => ?_)))))
  refine g1 5 (ji x_1.1) h5 fun h6 => ?_
  obtain ⟨r_2, E_r_2, h⟩ := bind_some h
  refine g_call (m := 0) (al := false) (r := (Enc.enc (r_2 : Bool))) [Enc.enc (x_1.1 : Int), Enc.enc (0 : Int), Enc.enc (8 : Int)] (ta_cons (v := (ji x_1.1)) h6 rfl rfl (ta_cons (v := (ji 0)) rfl rfl rfl (ta_cons (v := (ji 8)) rfl rfl rfl ta_nil))) (H.c29 _ _ _ _ E_r_2) H.g29 rfl rfl rfl rfl ?_
  refine g1 7 (jb (!r_2)) (rfl : (_ : V) = (jb r_2)) fun h8 => ?_
  refine gq (.nsq (run_cond (t := (!r_2)) h8 h (fun h => ?_) (fun h => ?_)))
  · refine .seq (rg (g0 (jb false) fun h2 => ?_))
    refine gq (.nsq (.ret ?_))
    have hr := Option.some.inj h
    subst hr
    exact rrA (res_tmp h2) rfl
  refine .skip (.nsq (.seq (.seq (rg (g1 1 (.ref (.bx 1) 0 [1] (Enc.enc (x_1.2 : List (Int × Int)))) (rfl : (_ : V) = (.ref (.bx 1) 0 [] (.agg [(ji x_1.1), (Enc.enc (x_1.2 : List (Int × Int)))]))) fun h9 => ?_)))))
  refine g1 9 (Enc.enc (x_1.2 : List (Int × Int))) h9 fun h10 => ?_
  refine gv (ji (x_1.2.length : Int)) (ev_len (xs := x_1.2) h10) fun h11 => ?_
  refine g0 (ji 0) fun h12 => gq (.nsq (.block (.loop ?_)))
  exact t_f15_l1 H x_1 F 0 _ ⟨rfl, h2, h10, h11, h12⟩ h
end
def e15 (F : Nat) : Ent := ent 15 (fun (x : ((Int × (List (Int × Int))) × Unit)) => i_IsGraph F x.1) (fun (r : Bool) => (Enc.enc (r : Bool))) 0 false []
theorem p15 {F : Nat} {x0 : (Int × (List (Int × Int)))} {r : Bool} (h : i_IsGraph F x0 = some r) : (e15 F).den [Enc.enc x0] = some (Enc.enc (r : Bool)) := ent_put (x0, ()) h
theorem o15 {D : Den} {σ : Sig} {F : Nat} (hF : Fits2 Try.prog D σ) (H : H15 D σ F) : (e15 F).Ok Try.prog := by
  refine ok_of (f := 15) (show unk 15 = 15 from rfl) (fun args r h => ?_) ⟨Try.f15, Try.func15, rfl, rfl⟩
  obtain ⟨⟨x0, _⟩, y, rfl, hy, rfl⟩ := da_open h
  exact contract_run hF (by kernel_rfl) Try.func15 rfl c15 (show 1 ≤ Try.f15.ntmps by decide) (t15 H x0 _ rfl hy)
/- loop.example/g01109/impl.netOf -/
def A16_5 : AC := (.reg [] [((jv 28 (.fld (.t 3) 0 0))), ((jv 29 (.load .p (.t 28)))), ((jv 30 (.idxA (.t 5) (jn 1) 2 1))), ((jv 31 (.load .s (.t 30)))), ((jv 32 (.idx (.t 29) (.t 31) 1))), ((jv 33 (.load .s (.t 32)))), ((jv 34 (.idxA (.t 5) (jn 0) 2 1))), ((jv 35 (.load .s (.t 34)))), ((jv 36 (.bin .shl (jn 1) (.t 35)))), ((jv 37 (.bin .or (.t 33) (.t 36)))), ((jv 38 (.idx (.t 29) (.t 31) 1))), (.mk none none false (.store .s (.t 38) (.t 37)))] [])
def A16_4 : AC := (.seq (.reg [] [((jv 17 (.fld (.t 3) 0 0))), ((jv 18 (.load .p (.t 17)))), ((jv 19 (.idxA (.t 5) (jn 0) 2 1))), ((jv 20 (.load .s (.t 19)))), ((jv 21 (.idx (.t 18) (.t 20) 1))), ((jv 22 (.load .s (.t 21)))), ((jv 23 (.idxA (.t 5) (jn 1) 2 1))), ((jv 24 (.load .s (.t 23)))), ((jv 25 (.bin .shl (jn 1) (.t 24)))), ((jv 26 (.bin .or (.t 22) (.t 25)))), ((jv 27 (.idx (.t 18) (.t 20) 1))), (.mk none none false (.store .s (.t 27) (.t 26)))] []) A16_5)
def A16_6 : AC := (.reg [] [((jv 39 (.bin .add (.t 13) (jn 1)))), (jm 13 39)] [])
def A16_3 : AC := (.seq (.block 1 (.seq (.reg [.clr [5]] [((jv 15 (.idx (.t 11) (.t 13) 2))), ((jv 16 (.load (.ag [.s, .s]) (.t 15)))), (.mk (some 5) none false (.alloc (.agg [(.int .i64 (.ofNat 0)), (.int .i64 (.ofNat 0))]))), (.mk none none false (.store (.ag [.s, .s]) (.t 5) (.t 16)))] []) A16_4)) A16_6)
def A16_2 : AC := (.seq (.cond (.t 14) .skip (.exit 0)) A16_3)
def A16_1 : AC := (.seq (.reg [] [((jv 14 (.bin .lss (.t 13) (.t 12))))] []) A16_2)
def A16_7 : AC := (.seq (.reg [] [((jv 40 (.load (.ag [.p]) (.t 3)))), (.mk none none false (.store (.ag [.p]) (.t 2) (.t 40)))] []) .ret)
def A16_10 : AC := (.block 0 (.loop A16_1))
def A16_9 : AC := (.seq (.seq (.reg [] [((jv 10 (.fld (.t 1) 1 1))), ((jv 11 (.load .p (.t 10)))), ((jv 12 (.len (.t 11)))), ((jv 13 (.mov (jn 0))))] []) A16_10) A16_7)
def A16_8 : AC := (.seq (.reg [.clr [8, 3]] [((jv 6 (.fld (.t 1) 0 0))), ((jv 7 (.load .s (.t 6)))), (.mk (some 8) none false (.mk (.t 7) (.int .i64 (.ofNat 0)) (.int .i64 (.ofNat 0)))), ((jv 9 (.bld (.agg [(.sl .nl .s 0 [])]) [(0, 0, (.t 8))]))), (.mk (some 3) none false (.alloc (.agg [(.sl .nl .s 0 [])]))), (.mk none none false (.store (.ag [.p]) (.t 3) (.t 9)))] []) A16_9)
def A16 : AC := (.seq (.reg [.clr [1, 2]] [(.mk (some 1) none false (.box (.t 0))), (.mk (some 2) none false (.alloc (.agg [(.sl .nl .s 0 [])])))] []) A16_8)
def an16 : List An := [{ id := 0, pre := [.clr [1, 2]], ep := [], lin := [], sp := [] }, { id := 1, pre := [.clr [8, 3]], ep := [], lin := [], sp := [] }, { id := 4, pre := [.clr [5]], ep := [], lin := [], sp := [] }]
theorem c16 : cC Try.prog Try.f16.ntmps an16 (Try.f16.body.getD .skip) = some A16 := by kernel_rfl
structure H16 (D : Den) (σ : Sig) (F : Nat) : Prop where
  mk ::
abbrev R16 (r : (S1 (List Int))) : (Nat → V) → Prop := RR Try.prog [.cell 2 40] 0 false (Enc.enc (r : (S1 (List Int))))
section
variable {D : Den} {σ : Sig} {F : Nat} {r : (S1 (List Int))}
def i_netOf_l1 (F : Nat) (x_1 : (Int × (List (Int × Int))))  : Nat → (List Int) → Int → Option (S1 (List Int))
  | 0, _, _ => none
  | k + 1, x_10, x_11 =>
    bif decide (x_11 < (x_1.2.length : Int)) then
      (idx x_1.2 x_11).bind fun e_19 =>
      (idx x_10 e_19.1).bind fun e_20 =>
      (shlI .i64 1 e_19.2).bind fun q_21 =>
      (idx x_10 e_19.1).bind fun e_22 =>
      (idx (x_10.set e_19.1.toNat (ior .i64 e_20 q_21)) e_19.2).bind fun e_23 =>
      (shlI .i64 1 e_19.1).bind fun q_24 =>
      (idx (x_10.set e_19.1.toNat (ior .i64 e_20 q_21)) e_19.2).bind fun e_25 =>
      (i_netOf_l1 F x_1 k) ((x_10.set e_19.1.toNat (ior .i64 e_20 q_21)).set e_19.2.toNat (ior .i64 e_23 q_24)) (w64 (x_11 + 1))
    else
      some (S1.mk x_10)
theorem t_f16_l1 (H : H16 D σ F) (x_1 : (Int × (List (Int × Int))))  : ∀ (k : Nat) (x_10 : (List Int)) (x_11 : Int) (s : Nat → V), Facts [(2, (.ref (.bx 2) 0 [] (.agg [(.sl .nl (Enc.shp Int) 0 [])]))), (3, (.ref (.bx 3) 0 [] (.agg [(oI 8 [] (.of x_10))]))), (11, (Enc.enc (x_1.2 : List (Int × Int)))), (12, (ji (x_1.2.length : Int))), (13, (ji x_11))] s → i_netOf_l1 F x_1 k x_10 x_11 = some r → Run D σ (R16 r) (.run A16_1 [.lp A16_1, .bk 0, .sq A16_7]) s := by
  intro k
  induction k with
  | zero => intro x_10 x_11 s _ h; exact nomatch (h : (none : Option _) = some r)
  | succ k ih =>
    intro x_10 x_11 s hs h
    rw [i_netOf_l1] at h
    obtain ⟨h2, h3, h11, h12, h13⟩ := hs
    refine .seq (rg (g2 13 12 (jb (decide (x_11 < (x_1.2.length : Int)))) h13 h12 fun h14 => ?_))
    refine gq (.nsq (.seq (run_cond (t := decide (x_11 < (x_1.2.length : Int))) h14 h (fun h => ?_) (fun h => ?_))))
    · refine .skip (.nsq (.seq (.block (.seq (run_reg ?_)))))
      refine e_clr ?_
      refine ez [(2, _), (3, _), (5, _), (11, _), (12, _), (13, _)] ⟨(keep_clear (pk := [5]) h2 rfl (map_bx rfl (map_agg (maps_cons rfl maps_nil)))), (keep_clear (pk := [5]) h3 rfl (map_bx rfl (map_agg (maps_cons (map_encO (r := 8) (p := []) rfl rfl) maps_nil)))), (gone_clear (pk := [5]) (t := 5) rfl), (keep_clear (pk := [5]) h11 rfl me), (keep_clear (pk := [5]) h12 rfl mi), (keep_clear (pk := [5]) h13 rfl mi)⟩ ?_
      rintro s ⟨h2, h3, h5, h11, h12, h13⟩
      obtain ⟨e_19, E_e_19, h⟩ := bind_some h
      refine gv (.ref .sh 0 [] (.agg [(ji e_19.1), (ji e_19.2)])) (ev_idx (t := .sh) (lo := 0) (xs := x_1.2) h11 h13 E_e_19 rfl rfl) fun h15 => ?_
      refine g1 15 (.agg [(ji e_19.1), (ji e_19.2)]) h15 fun h16 => ?_
      refine g_alloc h5 ?_
      refine g_store (.agg [(ji e_19.1), (ji e_19.2)]) (rd_of rfl rfl) (rd_of h16 rfl) (by refine ⟨by decide, by decide, rfl, rfl, rfl, ?_⟩; first | rfl | simp [V.toks, V.tokss, Enc.toks_enc]) ?_
      refine gz [(2, (.ref (.bx 2) 0 [] (.agg [(.sl .nl (Enc.shp Int) 0 [])]))), (3, (.ref (.bx 3) 0 [] (.agg [(oI 8 [] (.of x_10))]))), (5, (.ref (.bx 5) 0 [] (.agg [(ji e_19.1), (ji e_19.2)]))), (11, (Enc.enc (x_1.2 : List (Int × Int)))), (12, (ji (x_1.2.length : Int))), (13, (ji x_11))] ⟨(keep_mut h2 (mut_ref_ne rfl rfl (mut_agg (muts_cons rfl rfl)))), (keep_mut h3 (mut_ref_ne rfl rfl (mut_agg (muts_cons (mut_own_ne rfl rfl) rfl)))), (keep_mut rfl rfl), (keep_mut h11 (Enc.mut_enc _ _ _ _ (x_1.2 : List (Int × Int)))), (keep_mut h12 rfl), (keep_mut h13 rfl)⟩ ?_
      rintro s ⟨h2, h3, h5, h11, h12, h13⟩
      refine .nsq (.seq (rg (g1 3 (.ref (.bx 3) 0 [0] (oI 8 [] (.of x_10))) h3 fun h17 => ?_)))
      refine g1 17 (oI 8 [] (.of x_10)) h17 fun h18 => ?_
      refine g1 5 (.ref (.bx 5) 0 [0] (ji e_19.1)) h5 fun h19 => ?_
      refine g1 19 (ji e_19.1) h19 fun h20 => ?_
      obtain ⟨e_20, E_e_20, h⟩ := bind_some h
      refine gv (.ref (.at 8 []) e_19.1.toNat [] (ji e_20)) (ev_idxO (o := (.of x_10)) h18 h20 E_e_20 rfl) fun h21 => ?_
      refine g1 21 (ji e_20) h21 fun h22 => ?_
      refine g1 5 (.ref (.bx 5) 0 [1] (ji e_19.2)) h5 fun h23 => ?_
      refine g1 23 (ji e_19.2) h23 fun h24 => ?_
      obtain ⟨q_21, E_q_21, h⟩ := bind_some h
      refine gv (ji q_21) (ev_shl rfl h24 E_q_21) fun h25 => ?_
      refine g2 22 25 (ji (ior .i64 e_20 q_21)) h22 h25 fun h26 => ?_
      obtain ⟨e_22, E_e_22, h⟩ := bind_some h
      refine gv (.ref (.at 8 []) e_19.1.toNat [] (ji e_22)) (ev_idxO (o := (.of x_10)) h18 h20 E_e_22 rfl) fun h27 => ?_
      refine g_store (ji (ior .i64 e_20 q_21)) (rd_of h27 rfl) (rd_of h26 rfl) (by refine ⟨by decide, by decide, rfl, rfl, rfl, ?_⟩; first | rfl | simp [V.toks, V.tokss, Enc.toks_enc]) ?_
      refine gz [(2, (.ref (.bx 2) 0 [] (.agg [(.sl .nl (Enc.shp Int) 0 [])]))), (3, (.ref (.bx 3) 0 [] (.agg [(oI 8 [] (.of (x_10.set e_19.1.toNat (ior .i64 e_20 q_21))))]))), (5, (.ref (.bx 5) 0 [] (.agg [(ji e_19.1), (ji e_19.2)]))), (11, (Enc.enc (x_1.2 : List (Int × Int)))), (12, (ji (x_1.2.length : Int))), (13, (ji x_11))] ⟨(keep_mut h2 (mut_ref_ne rfl rfl (mut_agg (muts_cons rfl rfl)))), (keep_mut h3 (mut_ref_ne rfl rfl (mut_agg (muts_cons mut_own rfl)))), (keep_mut h5 rfl), (keep_mut h11 (Enc.mut_enc _ _ _ _ (x_1.2 : List (Int × Int)))), (keep_mut h12 rfl), (keep_mut h13 rfl)⟩ ?_
      rintro s ⟨h2, h3, h5, h11, h12, h13⟩
      refine .nsq (rg (g1 3 (.ref (.bx 3) 0 [0] (oI 8 [] (.of (x_10.set e_19.1.toNat (ior .i64 e_20 q_21))))) h3 fun h28 => ?_))
      refine g1 28 (oI 8 [] (.of (x_10.set e_19.1.toNat (ior .i64 e_20 q_21)))) h28 fun h29 => ?_
      refine g1 5 (.ref (.bx 5) 0 [1] (ji e_19.2)) h5 fun h30 => ?_
      refine g1 30 (ji e_19.2) h30 fun h31 => ?_
      obtain ⟨e_23, E_e_23, h⟩ := bind_some h
      refine gv (.ref (.at 8 []) e_19.2.toNat [] (ji e_23)) (ev_idxO (o := (.of (x_10.set e_19.1.toNat (ior .i64 e_20 q_21)))) h29 h31 E_e_23 rfl) fun h32 => ?_
      refine g1 32 (ji e_23) h32 fun h33 => ?_
      refine g1 5 (.ref (.bx 5) 0 [0] (ji e_19.1)) h5 fun h34 => ?_
      refine g1 34 (ji e_19.1) h34 fun h35 => ?_
      obtain ⟨q_24, E_q_24, h⟩ := bind_some h
      refine gv (ji q_24) (ev_shl rfl h35 E_q_24) fun h36 => ?_
      refine g2 33 36 (ji (ior .i64 e_23 q_24)) h33 h36 fun h37 => ?_
      obtain ⟨e_25, E_e_25, h⟩ := bind_some h
      refine gv (.ref (.at 8 []) e_19.2.toNat [] (ji e_25)) (ev_idxO (o := (.of (x_10.set e_19.1.toNat (ior .i64 e_20 q_21)))) h29 h31 E_e_25 rfl) fun h38 => ?_
      refine g_store (ji (ior .i64 e_23 q_24)) (rd_of h38 rfl) (rd_of h37 rfl) (by refine ⟨by decide, by decide, rfl, rfl, rfl, ?_⟩; first | rfl | simp [V.toks, V.tokss, Enc.toks_enc]) ?_
      refine gz [(2, (.ref (.bx 2) 0 [] (.agg [(.sl .nl (Enc.shp Int) 0 [])]))), (3, (.ref (.bx 3) 0 [] (.agg [(oI 8 [] (.of ((x_10.set e_19.1.toNat (ior .i64 e_20 q_21)).set e_19.2.toNat (ior .i64 e_23 q_24))))]))), (11, (Enc.enc (x_1.2 : List (Int × Int)))), (12, (ji (x_1.2.length : Int))), (13, (ji x_11))] ⟨(keep_mut h2 (mut_ref_ne rfl rfl (mut_agg (muts_cons rfl rfl)))), (keep_mut h3 (mut_ref_ne rfl rfl (mut_agg (muts_cons mut_own rfl)))), (keep_mut h11 (Enc.mut_enc _ _ _ _ (x_1.2 : List (Int × Int)))), (keep_mut h12 rfl), (keep_mut h13 rfl)⟩ ?_
      rintro s ⟨h2, h3, h11, h12, h13⟩
      refine .nbk (.nsq (rg (g1 13 (ji (w64 (x_11 + 1))) h13 fun h39 => ?_)))
      refine gm h39 fun h13 => gq (.nlp ?_)
      exact ih ((x_10.set e_19.1.toNat (ior .i64 e_20 q_21)).set e_19.2.toNat (ior .i64 e_23 q_24)) (w64 (x_11 + 1)) _ ⟨h2, h3, h11, h12, h13⟩ h
    refine .exit (.esq (.elp (.ebk (.nsq (.seq (rg (g1 3 (.agg [(oI 8 [] (.of x_10))]) h3 fun h40 => ?_)))))))
    refine g_store (.agg [(oI 8 [] (.of x_10))]) (rd_of h2 rfl) (rd_of h40 rfl) (by refine ⟨by decide, by decide, rfl, rfl, rfl, ?_⟩; first | rfl | simp [V.toks, V.tokss, Enc.toks_enc]) ?_
    refine gz [(2, (.ref (.bx 2) 0 [] (.agg [(oI 8 [] (.of x_10))])))] (keep_mut h2 rfl) ?_
    rintro s h2
    refine .nsq (.ret ?_)
    have hr := Option.some.inj h
    subst hr
    exact rrA (res_cell h2 (by kernel_rfl)) (fin_retF (fin_agg (fins_cons (fin_own (o := .of x_10)) fins_nil)) (mine_agg (mines_cons (mine_own rfl) mines_nil)))
def i_netOf (F : Nat) (x_1 : (Int × (List (Int × Int)))) : Option (S1 (List Int)) :=
  (mkN x_1.1 (0 : Int)).bind fun mk_2 =>
  i_netOf_l1 F x_1 F mk_2 0
theorem t16 (H : H16 D σ F) (x_1 : (Int × (List (Int × Int)))) (s : Nat → V) (hs : Facts [(0, (.agg [(ji x_1.1), (Enc.enc (x_1.2 : List (Int × Int)))]))] s) (h : i_netOf F x_1 = some r) : Run D σ (R16 r) (.run A16 []) s := by
  unfold i_netOf at h
  have h0 := hs
  refine .seq (run_reg ?_)
  refine e_clr ?_
  refine ez [(0, _), (1, _), (2, _)] ⟨(keep_clear (pk := [1, 2]) h0 rfl (map_agg (maps_cons mi (maps_cons me maps_nil)))), (gone_clear (pk := [1, 2]) (t := 1) rfl), (gone_clear (pk := [1, 2]) (t := 2) rfl)⟩ ?_
  rintro s ⟨h0, h1, h2⟩
  refine g_box (.agg [(ji x_1.1), (Enc.enc (x_1.2 : List (Int × Int)))]) (rd_of h0 rfl) h1 rfl ?_
  refine g_alloc h2 ?_
  refine gq (.nsq (.seq (run_reg ?_)))
  refine e_clr ?_
  refine ez [(1, _), (2, _), (3, _), (8, _)] ⟨(keep_clear (pk := [8, 3]) rfl rfl (map_bx rfl (map_agg (maps_cons mi (maps_cons me maps_nil))))), (keep_clear (pk := [8, 3]) rfl rfl (map_bx rfl (map_agg (maps_cons rfl maps_nil)))), (gone_clear (pk := [8, 3]) (t := 3) rfl), (gone_clear (pk := [8, 3]) (t := 8) rfl)⟩ ?_
  rintro s ⟨h1, h2, h3, h8⟩
  refine g1 1 (.ref (.bx 1) 0 [0] (ji x_1.1)) h1 fun h6 => ?_
  refine g1 6 (ji x_1.1) h6 fun h7 => ?_
  obtain ⟨mk_2, E_mk_2, h⟩ := bind_some h
  refine g_mk (0 : Int) h7 rfl h8 E_mk_2 ?_
  refine g1 8 (.agg [(oI 8 [] (.of mk_2))]) (rfl : (_ : V) = (oI 8 [] (.of mk_2))) fun h9 => ?_
  refine g_alloc h3 ?_
  refine g_store (.agg [(oI 8 [] (.of mk_2))]) (rd_of rfl rfl) (rd_of h9 rfl) (by refine ⟨by decide, by decide, rfl, rfl, rfl, ?_⟩; first | rfl | simp [V.toks, V.tokss, Enc.toks_enc]) ?_
  refine gz [(1, (.ref (.bx 1) 0 [] (.agg [(ji x_1.1), (Enc.enc (x_1.2 : List (Int × Int)))]))), (2, (.ref (.bx 2) 0 [] (.agg [(.sl .nl (Enc.shp Int) 0 [])]))), (3, (.ref (.bx 3) 0 [] (.agg [(oI 8 [] (.of mk_2))])))] ⟨(keep_mut h1 (mut_ref_ne rfl rfl (mut_agg (muts_cons rfl (muts_cons (Enc.mut_enc _ _ _ _ (x_1.2 : List (Int × Int))) rfl))))), (keep_mut h2 (mut_ref_ne rfl rfl (mut_agg (muts_cons rfl rfl)))), (keep_mut rfl rfl)⟩ ?_
  rintro s ⟨h1, h2, h3⟩
  refine .nsq (.seq (.seq (rg (g1 1 (.ref (.bx 1) 0 [1] (Enc.enc (x_1.2 : List (Int × Int)))) h1 fun h10 => ?_))))
  refine g1 10 (Enc.enc (x_1.2 : List (Int × Int))) h10 fun h11 => ?_
  refine gv (ji (x_1.2.length : Int)) (ev_len (xs := x_1.2) h11) fun h12 => ?_
  refine g0 (ji 0) fun h13 => gq (.nsq (.block (.loop ?_)))
  exact t_f16_l1 H x_1 F mk_2 0 _ ⟨h2, h3, h11, h12, h13⟩ h
end
def e16 (F : Nat) : Ent := ent 16 (fun (x : ((Int × (List (Int × Int))) × Unit)) => i_netOf F x.1) (fun (r : (S1 (List Int))) => (Enc.enc (r : (S1 (List Int))))) 0 false []
theorem p16 {F : Nat} {x0 : (Int × (List (Int × Int)))} {r : (S1 (List Int))} (h : i_netOf F x0 = some r) : (e16 F).den [Enc.enc x0] = some (Enc.enc (r : (S1 (List Int)))) := ent_put (x0, ()) h
theorem o16 {D : Den} {σ : Sig} {F : Nat} (hF : Fits2 Try.prog D σ) (H : H16 D σ F) : (e16 F).Ok Try.prog := by
  refine ok_of (f := 16) (show unk 16 = 16 from rfl) (fun args r h => ?_) ⟨Try.f16, Try.func16, rfl, rfl⟩
  obtain ⟨⟨x0, _⟩, y, rfl, hy, rfl⟩ := da_open h
  exact contract_run hF (by kernel_rfl) Try.func16 rfl c16 (show 1 ≤ Try.f16.ntmps by decide) (t16 H x0 _ rfl hy)
/- math/bits.Mul64 -/
def A38_11 : AC := (.seq (.reg [] [(jm 48 0), (jm 49 1), ((jv 50 (.bin .mul (.t 48) (.t 49)))), (jm 5 50)] []) .ret)
def A38_10 : AC := (.seq (.reg [] [(jm 40 7), (jm 41 9), ((jv 42 (.bin .mul (.t 40) (.t 41)))), (jm 43 13), ((jv 44 (.bin .add (.t 42) (.t 43)))), (jm 45 12), ((jv 46 (.bin .shr (.t 45) (.k (.int .u64 (.ofNat 32)))))), ((jv 47 (.bin .add (.t 44) (.t 46)))), (jm 4 47)] []) A38_11)
def A38_9 : AC := (.seq (.reg [] [(jm 35 12), (jm 36 6), (jm 37 9), ((jv 38 (.bin .mul (.t 36) (.t 37)))), ((jv 39 (.bin .add (.t 35) (.t 38)))), (jm 12 39)] []) A38_10)
def A38_8 : AC := (.seq (.reg [] [(jm 33 11), ((jv 34 (.bin .shr (.t 33) (.k (.int .u64 (.ofNat 32)))))), (jm 13 34)] []) A38_9)
def A38_7 : AC := (.seq (.reg [] [(jm 31 11), ((jv 32 (.bin .and (.t 31) (.k (.int .u64 (.ofNat 4294967295)))))), (jm 12 32)] []) A38_8)
def A38_6 : AC := (.seq (.reg [] [(jm 25 7), (jm 26 8), ((jv 27 (.bin .mul (.t 25) (.t 26)))), (jm 28 10), ((jv 29 (.bin .shr (.t 28) (.k (.int .u64 (.ofNat 32)))))), ((jv 30 (.bin .add (.t 27) (.t 29)))), (jm 11 30)] []) A38_7)
def A38_5 : AC := (.seq (.reg [] [(jm 22 6), (jm 23 8), ((jv 24 (.bin .mul (.t 22) (.t 23)))), (jm 10 24)] []) A38_6)
def A38_4 : AC := (.seq (.reg [] [(jm 20 1), ((jv 21 (.bin .shr (.t 20) (.k (.int .u64 (.ofNat 32)))))), (jm 9 21)] []) A38_5)
def A38_3 : AC := (.seq (.reg [] [(jm 18 1), ((jv 19 (.bin .and (.t 18) (.k (.int .u64 (.ofNat 4294967295)))))), (jm 8 19)] []) A38_4)
def A38_2 : AC := (.seq (.reg [] [(jm 16 0), ((jv 17 (.bin .shr (.t 16) (.k (.int .u64 (.ofNat 32)))))), (jm 7 17)] []) A38_3)
def A38_1 : AC := (.seq (.reg [] [(jm 14 0), ((jv 15 (.bin .and (.t 14) (.k (.int .u64 (.ofNat 4294967295)))))), (jm 6 15)] []) A38_2)
def A38 : AC := (.seq (.reg [] [((jv 4 (.mov (.k (.int .u64 (.ofNat 0)))))), ((jv 5 (.mov (.k (.int .u64 (.ofNat 0))))))] []) A38_1)
def an38 : List An := []
theorem c38 : cC Try.prog Try.f38.ntmps an38 (Try.f38.body.getD .skip) = some A38 := by kernel_rfl
structure H38 (D : Den) (σ : Sig) (F : Nat) : Prop where
  mk ::
abbrev R38 (r : ((Kd .u64) × (Kd .u64))) : (Nat → V) → Prop := RR Try.prog [.tmp 4, .tmp 5] 0 false (.tup [Enc.enc (r.1 : (Kd .u64)), Enc.enc (r.2 : (Kd .u64))])
section
variable {D : Den} {σ : Sig} {F : Nat} {r : ((Kd .u64) × (Kd .u64))}
def bits_Mul64 (F : Nat) (x_1 : (Kd .u64)) (x_2 : (Kd .u64)) : Option ((Kd .u64) × (Kd .u64)) :=
  (shrI .u64 x_1.v 32).bind fun q_3 =>
  (shrI .u64 x_2.v 32).bind fun q_4 =>
  (shrI .u64 (IntKind.u64.wrap ((iand .u64 x_1.v 4294967295) * (iand .u64 x_2.v 4294967295))) 32).bind fun q_5 =>
  (shrI .u64 (IntKind.u64.wrap ((IntKind.u64.wrap (q_3 * (iand .u64 x_2.v 4294967295))) + q_5)) 32).bind fun q_6 =>
  (shrI .u64 (IntKind.u64.wrap ((iand .u64 (IntKind.u64.wrap ((IntKind.u64.wrap (q_3 * (iand .u64 x_2.v 4294967295))) + q_5)) 4294967295) + (IntKind.u64.wrap ((iand .u64 x_1.v 4294967295) * q_4)))) 32).bind fun q_7 =>
  some ((Kd.mk (IntKind.u64.wrap ((IntKind.u64.wrap ((IntKind.u64.wrap (q_3 * q_4)) + q_6)) + q_7)) : Kd .u64), (Kd.mk (IntKind.u64.wrap (x_1.v * x_2.v)) : Kd .u64))
theorem t38 (H : H38 D σ F) (x_1 : (Kd .u64)) (x_2 : (Kd .u64)) (s : Nat → V) (hs : Facts [(0, (.int .u64 x_1.v)), (1, (.int .u64 x_2.v))] s) (h : bits_Mul64 F x_1 x_2 = some r) : Run D σ (R38 r) (.run A38 []) s := by
  unfold bits_Mul64 at h
  obtain ⟨h0, h1⟩ := hs
  refine .seq (rg (g0 (.int .u64 0) fun h4 => ?_))
  refine g0 (.int .u64 0) fun h5 => ?_
  refine gq (.nsq (.seq (rg (gm h0 fun h14 => g1 14 (.int .u64 (iand .u64 x_1.v 4294967295)) h14 fun h15 => ?_))))
  refine gm h15 fun h6 => gq (.nsq (.seq (rg (gm h0 fun h16 => ?_))))
  obtain ⟨q_3, E_q_3, h⟩ := bind_some h
  refine gv (.int .u64 q_3) (ev_shr h16 rfl E_q_3) fun h17 => ?_
  refine gm h17 fun h7 => gq (.nsq (.seq (rg (gm h1 fun h18 => g1 18 (.int .u64 (iand .u64 x_2.v 4294967295)) h18 fun h19 => ?_))))
  refine gm h19 fun h8 => gq (.nsq (.seq (rg (gm h1 fun h20 => ?_))))
  obtain ⟨q_4, E_q_4, h⟩ := bind_some h
  refine gv (.int .u64 q_4) (ev_shr h20 rfl E_q_4) fun h21 => ?_
  refine gm h21 fun h9 => gq (.nsq (.seq (rg (gm h6 fun h22 => gm h8 fun h23 => g2 22 23 (.int .u64 (IntKind.u64.wrap ((iand .u64 x_1.v 4294967295) * (iand .u64 x_2.v 4294967295)))) h22 h23 fun h24 => ?_))))
  refine gm h24 fun h10 => gq (.nsq (.seq (rg (gm h7 fun h25 => gm h8 fun h26 => g2 25 26 (.int .u64 (IntKind.u64.wrap (q_3 * (iand .u64 x_2.v 4294967295)))) h25 h26 fun h27 => ?_))))
  refine gm h10 fun h28 => ?_
  obtain ⟨q_5, E_q_5, h⟩ := bind_some h
  refine gv (.int .u64 q_5) (ev_shr h28 rfl E_q_5) fun h29 => ?_
  refine g2 27 29 (.int .u64 (IntKind.u64.wrap ((IntKind.u64.wrap (q_3 * (iand .u64 x_2.v 4294967295))) + q_5))) h27 h29 fun h30 => ?_
  refine gm h30 fun h11 => gq (.nsq (.seq (rg (gm h11 fun h31 => g1 31 (.int .u64 (iand .u64 (IntKind.u64.wrap ((IntKind.u64.wrap (q_3 * (iand .u64 x_2.v 4294967295))) + q_5)) 4294967295)) h31 fun h32 => ?_))))
  refine gm h32 fun h12 => gq (.nsq (.seq (rg (gm h11 fun h33 => ?_))))
  obtain ⟨q_6, E_q_6, h⟩ := bind_some h
  refine gv (.int .u64 q_6) (ev_shr h33 rfl E_q_6) fun h34 => ?_
  refine gm h34 fun h13 => gz [(0, _), (1, _), (4, _), (5, _), (6, _), (7, _), (9, _), (12, _), (13, _)] ⟨h0, h1, h4, h5, h6, h7, h9, h12, h13⟩ ?_
  rintro s ⟨h0, h1, h4, h5, h6, h7, h9, h12, h13⟩
  refine .nsq (.seq (rg (gm h12 fun h35 => gm h6 fun h36 => gm h9 fun h37 => g2 36 37 (.int .u64 (IntKind.u64.wrap ((iand .u64 x_1.v 4294967295) * q_4))) h36 h37 fun h38 => ?_)))
  refine g2 35 38 (.int .u64 (IntKind.u64.wrap ((iand .u64 (IntKind.u64.wrap ((IntKind.u64.wrap (q_3 * (iand .u64 x_2.v 4294967295))) + q_5)) 4294967295) + (IntKind.u64.wrap ((iand .u64 x_1.v 4294967295) * q_4))))) h35 h38 fun h39 => ?_
  refine gm h39 fun h12 => gq (.nsq (.seq (rg (gm h7 fun h40 => gm h9 fun h41 => g2 40 41 (.int .u64 (IntKind.u64.wrap (q_3 * q_4))) h40 h41 fun h42 => ?_))))
  refine gm h13 fun h43 => g2 42 43 (.int .u64 (IntKind.u64.wrap ((IntKind.u64.wrap (q_3 * q_4)) + q_6))) h42 h43 fun h44 => ?_
  refine gm h12 fun h45 => ?_
  obtain ⟨q_7, E_q_7, h⟩ := bind_some h
  refine gv (.int .u64 q_7) (ev_shr h45 rfl E_q_7) fun h46 => ?_
  refine g2 44 46 (.int .u64 (IntKind.u64.wrap ((IntKind.u64.wrap ((IntKind.u64.wrap (q_3 * q_4)) + q_6)) + q_7))) h44 h46 fun h47 => ?_
  refine gm h47 fun h4 => gq (.nsq (.seq (rg (gm h0 fun h48 => gm h1 fun h49 => g2 48 49 (.int .u64 (IntKind.u64.wrap (x_1.v * x_2.v))) h48 h49 fun h50 => ?_))))
  refine gm h50 fun h5 => gq (.nsq (.ret ?_))
  have hr := Option.some.inj h
  subst hr
  exact rrB (res_tmp h4) (res_tmp h5) rfl
end
def e38 (F : Nat) : Ent := ent 38 (fun (x : ((Kd .u64) × (Kd .u64) × Unit)) => bits_Mul64 F x.1 x.2.1) (fun (r : ((Kd .u64) × (Kd .u64))) => (.tup [Enc.enc (r.1 : (Kd .u64)), Enc.enc (r.2 : (Kd .u64))])) 0 false []
theorem p38 {F : Nat} {x0 : (Kd .u64)} {x1 : (Kd .u64)} {r : ((Kd .u64) × (Kd .u64))} (h : bits_Mul64 F x0 x1 = some r) : (e38 F).den [Enc.enc x0, Enc.enc x1] = some (.tup [Enc.enc (r.1 : (Kd .u64)), Enc.enc (r.2 : (Kd .u64))]) := ent_put (x0, x1, ()) h
theorem o38 {D : Den} {σ : Sig} {F : Nat} (hF : Fits2 Try.prog D σ) (H : H38 D σ F) : (e38 F).Ok Try.prog := by
  refine ok_of (f := 38) (show unk 38 = 38 from rfl) (fun args r h => ?_) ⟨Try.f38, Try.func38, rfl, rfl⟩
  obtain ⟨⟨x0, x1, _⟩, y, rfl, hy, rfl⟩ := da_open h
  exact contract_run hF (by kernel_rfl) Try.func38 rfl c38 (show 2 ≤ Try.f38.ntmps by decide) (t38 H x0 x1 _ ⟨rfl, rfl⟩ hy)
/- math/bits.Mul -/
def A31_2 : AC := (.seq (.reg [] [(jm 18 6), ((jv 19 (.conv .u64 (.t 18)))), (jm 20 7), ((jv 21 (.conv .u64 (.t 20)))), (jm 4 19), (jm 5 21)] []) .ret)
def A31_4 : AC := (.seq (.reg [] [(jm 28 8), (jm 29 9), (jm 4 28), (jm 5 29)] []) .ret)
def A31_3 : AC := (.seq (.reg [] [(jm 23 0), (jm 24 1), (.mk (some 25) none false (.call (.k (.fn 38 [] [])) [(.t 23), (.t 24)])), (jm 22 25), ((jv 26 (.extS (.t 22) 0))), ((jv 27 (.extS (.t 22) 1))), (jm 8 26), (jm 9 27)] []) A31_4)
def A31_1 : AC := (.seq (.cond (.k (.bool false)) (.seq (.reg [] [(jm 11 0), ((jv 12 (.conv .u32 (.t 11)))), (jm 13 1), ((jv 14 (.conv .u32 (.t 13)))), (.mk (some 15) none false (.call (.k (.fn 37 [] [])) [(.t 12), (.t 14)])), (jm 10 15), ((jv 16 (.extS (.t 10) 0))), ((jv 17 (.extS (.t 10) 1))), (jm 6 16), (jm 7 17)] []) A31_2) .skip) A31_3)
def A31 : AC := (.seq (.reg [] [((jv 4 (.mov (.k (.int .u64 (.ofNat 0)))))), ((jv 5 (.mov (.k (.int .u64 (.ofNat 0))))))] []) A31_1)
def an31 : List An := []
theorem c31 : cC Try.prog Try.f31.ntmps an31 (Try.f31.body.getD .skip) = some A31 := by kernel_rfl
structure H31 (D : Den) (σ : Sig) (F : Nat) : Prop where
  c38 : ∀ (x0 : (Kd .u64)) (x1 : (Kd .u64)) r, bits_Mul64 F x0 x1 = some r → D 38 [Enc.enc x0, Enc.enc x1] = some (.tup [Enc.enc (r.1 : (Kd .u64)), Enc.enc (r.2 : (Kd .u64))])
  g38 : σ 38 = some (0, false)
abbrev R31 (r : ((Kd .u64) × (Kd .u64))) : (Nat → V) → Prop := RR Try.prog [.tmp 4, .tmp 5] 0 false (.tup [Enc.enc (r.1 : (Kd .u64)), Enc.enc (r.2 : (Kd .u64))])
section
variable {D : Den} {σ : Sig} {F : Nat} {r : ((Kd .u64) × (Kd .u64))}
def bits_Mul (F : Nat) (x_1 : (Kd .u64)) (x_2 : (Kd .u64)) : Option ((Kd .u64) × (Kd .u64)) :=
  (bits_Mul64 F (Kd.mk x_1.v : Kd .u64) (Kd.mk x_2.v : Kd .u64)).bind fun r_3 =>
  some ((Kd.mk r_3.1.v : Kd .u64), (Kd.mk r_3.2.v : Kd .u64))
theorem t31 (H : H31 D σ F) (x_1 : (Kd .u64)) (x_2 : (Kd .u64)) (s : Nat → V) (hs : Facts [(0, (.int .u64 x_1.v)), (1, (.int .u64 x_2.v))] s) (h : bits_Mul F x_1 x_2 = some r) : Run D σ (R31 r) (.run A31 []) s := by
  unfold bits_Mul at h
  obtain ⟨h0, h1⟩ := hs
  refine .seq (rg (g0 (.int .u64 0) fun h4 => ?_))
  refine g0 (.int .u64 0) fun h5 => ?_
  refine gq (.nsq (.seq (run_condF rfl ?_)))
  refine .skip (.nsq (.seq (rg (gm h0 fun h23 => gm h1 fun h24 => ?_))))
  obtain ⟨r_3, E_r_3, h⟩ := bind_some h
  refine g_call (m := 0) (al := false) (r := (.tup [Enc.enc (r_3.1 : (Kd .u64)), Enc.enc (r_3.2 : (Kd .u64))])) [Enc.enc ((Kd.mk x_1.v : Kd .u64) : (Kd .u64)), Enc.enc ((Kd.mk x_2.v : Kd .u64) : (Kd .u64))] (ta_cons (v := (.int .u64 x_1.v)) h23 rfl rfl (ta_cons (v := (.int .u64 x_2.v)) h24 rfl rfl ta_nil)) (H.c38 _ _ _ E_r_3) H.g38 rfl rfl rfl rfl ?_
  refine gm (rfl : (_ : V) = (.tup [(.int .u64 r_3.1.v), (.int .u64 r_3.2.v)])) fun h22 => ?_
  refine g1 22 (.int .u64 r_3.1.v) h22 fun h26 => ?_
  refine g1 22 (.int .u64 r_3.2.v) h22 fun h27 => ?_
  refine gm h26 fun h8 => gm h27 fun h9 => gq (.nsq (.seq (rg (gm h8 fun h28 => gm h9 fun h29 => gm h28 fun h4 => gm h29 fun h5 => gq (.nsq (.ret ?_))))))
  have hr := Option.some.inj h
  subst hr
  exact rrB (res_tmp h4) (res_tmp h5) rfl
end
def e31 (F : Nat) : Ent := ent 31 (fun (x : ((Kd .u64) × (Kd .u64) × Unit)) => bits_Mul F x.1 x.2.1) (fun (r : ((Kd .u64) × (Kd .u64))) => (.tup [Enc.enc (r.1 : (Kd .u64)), Enc.enc (r.2 : (Kd .u64))])) 0 false []
theorem p31 {F : Nat} {x0 : (Kd .u64)} {x1 : (Kd .u64)} {r : ((Kd .u64) × (Kd .u64))} (h : bits_Mul F x0 x1 = some r) : (e31 F).den [Enc.enc x0, Enc.enc x1] = some (.tup [Enc.enc (r.1 : (Kd .u64)), Enc.enc (r.2 : (Kd .u64))]) := ent_put (x0, x1, ()) h
theorem o31 {D : Den} {σ : Sig} {F : Nat} (hF : Fits2 Try.prog D σ) (H : H31 D σ F) : (e31 F).Ok Try.prog := by
  refine ok_of (f := 31) (show unk 31 = 31 from rfl) (fun args r h => ?_) ⟨Try.f31, Try.func31, rfl, rfl⟩
  obtain ⟨⟨x0, x1, _⟩, y, rfl, hy, rfl⟩ := da_open h
  exact contract_run hF (by kernel_rfl) Try.func31 rfl c31 (show 2 ≤ Try.f31.ntmps by decide) (t31 H x0 x1 _ ⟨rfl, rfl⟩ hy)
/- (loop.example/g01109/impl.net).all -/
def A18_1 : AC := (.seq (.reg [] [((jv 3 (.fld (.t 1) 0 0))), ((jv 4 (.load .p (.t 3)))), ((jv 5 (.len (.t 4)))), ((jv 6 (.bin .shl (jn 1) (.t 5)))), ((jv 7 (.bin .sub (.t 6) (jn 1)))), (jm 2 7)] []) .ret)
def A18 : AC := (.seq (.reg [.clr [1]] [(.mk (some 1) none false (.box (.t 0))), ((jv 2 (.mov (jn 0))))] []) A18_1)
def an18 : List An := [{ id := 0, pre := [.clr [1]], ep := [], lin := [], sp := [] }]
theorem c18 : cC Try.prog Try.f18.ntmps an18 (Try.f18.body.getD .skip) = some A18 := by kernel_rfl
structure H18 (D : Den) (σ : Sig) (F : Nat) : Prop where
  mk ::
abbrev R18 (r : Int) : (Nat → V) → Prop := RR Try.prog [.tmp 2] 0 false (Enc.enc (r : Int))
section
variable {D : Den} {σ : Sig} {F : Nat} {r : Int}
def i_net_all (F : Nat) (x_1 : (S1 (List Int))) : Option Int :=
  (shlI .i64 1 (x_1.a.length : Int)).bind fun q_2 =>
  some (w64 (q_2 - 1))
theorem t18 (H : H18 D σ F) (x_1 : (S1 (List Int))) (s : Nat → V) (hs : Facts [(0, (.agg [(eL x_1.a)]))] s) (h : i_net_all F x_1 = some r) : Run D σ (R18 r) (.run A18 []) s := by
  unfold i_net_all at h
  have h0 := hs
  refine .seq (run_reg ?_)
  refine e_clr ?_
  refine ez [(0, _), (1, _)] ⟨(keep_clear (pk := [1]) h0 rfl (map_agg (maps_cons me maps_nil))), (gone_clear (pk := [1]) (t := 1) rfl)⟩ ?_
  rintro s ⟨h0, h1⟩
  refine g_box (.agg [(eL x_1.a)]) (rd_of h0 rfl) h1 rfl ?_
  refine g0 (ji 0) fun h2 => gq (.nsq (.seq (rg (g1 1 (.ref (.bx 1) 0 [0] (eL x_1.a)) (rfl : (_ : V) = (.ref (.bx 1) 0 [] (.agg [(eL x_1.a)]))) fun h3 => ?_))))
  refine g1 3 (eL x_1.a) h3 fun h4 => ?_
  refine gv (ji (x_1.a.length : Int)) (ev_len (xs := x_1.a) h4) fun h5 => ?_
  obtain ⟨q_2, E_q_2, h⟩ := bind_some h
  refine gv (ji q_2) (ev_shl rfl h5 E_q_2) fun h6 => ?_
  refine g1 6 (ji (w64 (q_2 - 1))) h6 fun h7 => ?_
  refine gm h7 fun h2 => gq (.nsq (.ret ?_))
  have hr := Option.some.inj h
  subst hr
  exact rrA (res_tmp h2) rfl
end
def e18 (F : Nat) : Ent := ent 18 (fun (x : ((S1 (List Int)) × Unit)) => i_net_all F x.1) (fun (r : Int) => (Enc.enc (r : Int))) 0 false []
theorem p18 {F : Nat} {x0 : (S1 (List Int))} {r : Int} (h : i_net_all F x0 = some r) : (e18 F).den [Enc.enc x0] = some (Enc.enc (r : Int)) := ent_put (x0, ()) h
theorem o18 {D : Den} {σ : Sig} {F : Nat} (hF : Fits2 Try.prog D σ) (H : H18 D σ F) : (e18 F).Ok Try.prog := by
  refine ok_of (f := 18) (show unk 18 = 18 from rfl) (fun args r h => ?_) ⟨Try.f18, Try.func18, rfl, rfl⟩
  obtain ⟨⟨x0, _⟩, y, rfl, hy, rfl⟩ := da_open h
  exact contract_run hF (by kernel_rfl) Try.func18 rfl c18 (show 1 ≤ Try.f18.ntmps by decide) (t18 H x0 _ rfl hy)
/- math/bits.OnesCount64 -/
def A33_7 : AC := (.seq (.reg [] [(jm 32 0), ((jv 33 (.conv .i64 (.t 32)))), ((jv 34 (.bin .and (.t 33) (jn 127)))), (jm 2 34)] []) .ret)
def A33_6 : AC := (.seq (.reg [] [(jm 28 0), (jm 29 0), ((jv 30 (.bin .shr (.t 29) (.k (.int .u64 (.ofNat 32)))))), ((jv 31 (.bin .add (.t 28) (.t 30)))), (jm 0 31)] []) A33_7)
def A33_5 : AC := (.seq (.reg [] [(jm 24 0), (jm 25 0), ((jv 26 (.bin .shr (.t 25) (.k (.int .u64 (.ofNat 16)))))), ((jv 27 (.bin .add (.t 24) (.t 26)))), (jm 0 27)] []) A33_6)
def A33_4 : AC := (.seq (.reg [] [(jm 20 0), (jm 21 0), ((jv 22 (.bin .shr (.t 21) (.k (.int .u64 (.ofNat 8)))))), ((jv 23 (.bin .add (.t 20) (.t 22)))), (jm 0 23)] []) A33_5)
def A33_3 : AC := (.seq (.reg [] [(jm 15 0), ((jv 16 (.bin .shr (.t 15) (.k (.int .u64 (.ofNat 4)))))), (jm 17 0), ((jv 18 (.bin .add (.t 16) (.t 17)))), ((jv 19 (.bin .and (.t 18) (.k (.int .u64 (.ofNat 1085102592571150095)))))), (jm 0 19)] []) A33_4)
def A33_2 : AC := (.seq (.reg [] [(jm 9 0), ((jv 10 (.bin .shr (.t 9) (.k (.int .u64 (.ofNat 2)))))), ((jv 11 (.bin .and (.t 10) (.k (.int .u64 (.ofNat 3689348814741910323)))))), (jm 12 0), ((jv 13 (.bin .and (.t 12) (.k (.int .u64 (.ofNat 3689348814741910323)))))), ((jv 14 (.bin .add (.t 11) (.t 13)))), (jm 0 14)] []) A33_3)
def A33_1 : AC := (.seq (.reg [] [(jm 3 0), ((jv 4 (.bin .shr (.t 3) (.k (.int .u64 (.ofNat 1)))))), ((jv 5 (.bin .and (.t 4) (.k (.int .u64 (.ofNat 6148914691236517205)))))), (jm 6 0), ((jv 7 (.bin .and (.t 6) (.k (.int .u64 (.ofNat 6148914691236517205)))))), ((jv 8 (.bin .add (.t 5) (.t 7)))), (jm 0 8)] []) A33_2)
def A33 : AC := (.seq (.reg [] [((jv 2 (.mov (jn 0))))] []) A33_1)
def an33 : List An := []
theorem c33 : cC Try.prog Try.f33.ntmps an33 (Try.f33.body.getD .skip) = some A33 := by kernel_rfl
structure H33 (D : Den) (σ : Sig) (F : Nat) : Prop where
  mk ::
abbrev R33 (r : Int) : (Nat → V) → Prop := RR Try.prog [.tmp 2] 0 false (Enc.enc (r : Int))
section
variable {D : Den} {σ : Sig} {F : Nat} {r : Int}
def bits_OnesCount64 (F : Nat) (x_1 : (Kd .u64)) : Option Int :=
  (shrI .u64 x_1.v 1).bind fun q_2 =>
  (shrI .u64 (IntKind.u64.wrap ((iand .u64 q_2 6148914691236517205) + (iand .u64 x_1.v 6148914691236517205))) 2).bind fun q_3 =>
  (shrI .u64 (IntKind.u64.wrap ((iand .u64 q_3 3689348814741910323) + (iand .u64 (IntKind.u64.wrap ((iand .u64 q_2 6148914691236517205) + (iand .u64 x_1.v 6148914691236517205))) 3689348814741910323))) 4).bind fun q_4 =>
  (shrI .u64 (iand .u64 (IntKind.u64.wrap (q_4 + (IntKind.u64.wrap ((iand .u64 q_3 3689348814741910323) + (iand .u64 (IntKind.u64.wrap ((iand .u64 q_2 6148914691236517205) + (iand .u64 x_1.v 6148914691236517205))) 3689348814741910323))))) 1085102592571150095) 8).bind fun q_5 =>
  (shrI .u64 (IntKind.u64.wrap ((iand .u64 (IntKind.u64.wrap (q_4 + (IntKind.u64.wrap ((iand .u64 q_3 3689348814741910323) + (iand .u64 (IntKind.u64.wrap ((iand .u64 q_2 6148914691236517205) + (iand .u64 x_1.v 6148914691236517205))) 3689348814741910323))))) 1085102592571150095) + q_5)) 16).bind fun q_6 =>
  (shrI .u64 (IntKind.u64.wrap ((IntKind.u64.wrap ((iand .u64 (IntKind.u64.wrap (q_4 + (IntKind.u64.wrap ((iand .u64 q_3 3689348814741910323) + (iand .u64 (IntKind.u64.wrap ((iand .u64 q_2 6148914691236517205) + (iand .u64 x_1.v 6148914691236517205))) 3689348814741910323))))) 1085102592571150095) + q_5)) + q_6)) 32).bind fun q_7 =>
  some (iand .i64 (w64 (IntKind.u64.wrap ((IntKind.u64.wrap ((IntKind.u64.wrap ((iand .u64 (IntKind.u64.wrap (q_4 + (IntKind.u64.wrap ((iand .u64 q_3 3689348814741910323) + (iand .u64 (IntKind.u64.wrap ((iand .u64 q_2 6148914691236517205) + (iand .u64 x_1.v 6148914691236517205))) 3689348814741910323))))) 1085102592571150095) + q_5)) + q_6)) + q_7))) 127)
theorem t33 (H : H33 D σ F) (x_1 : (Kd .u64)) (s : Nat → V) (hs : Facts [(0, (.int .u64 x_1.v))] s) (h : bits_OnesCount64 F x_1 = some r) : Run D σ (R33 r) (.run A33 []) s := by
  unfold bits_OnesCount64 at h
  have h0 := hs
  refine .seq (rg (g0 (ji 0) fun h2 => gq (.nsq (.seq (rg (gm h0 fun h3 => ?_))))))
  obtain ⟨q_2, E_q_2, h⟩ := bind_some h
  refine gv (.int .u64 q_2) (ev_shr h3 rfl E_q_2) fun h4 => ?_
  refine g1 4 (.int .u64 (iand .u64 q_2 6148914691236517205)) h4 fun h5 => ?_
  refine gm h0 fun h6 => g1 6 (.int .u64 (iand .u64 x_1.v 6148914691236517205)) h6 fun h7 => ?_
  refine g2 5 7 (.int .u64 (IntKind.u64.wrap ((iand .u64 q_2 6148914691236517205) + (iand .u64 x_1.v 6148914691236517205)))) h5 h7 fun h8 => ?_
  refine gm h8 fun h0 => gq (.nsq (.seq (rg (gm h0 fun h9 => ?_))))
  obtain ⟨q_3, E_q_3, h⟩ := bind_some h
  refine gv (.int .u64 q_3) (ev_shr h9 rfl E_q_3) fun h10 => ?_
  refine g1 10 (.int .u64 (iand .u64 q_3 3689348814741910323)) h10 fun h11 => ?_
  refine gm h0 fun h12 => g1 12 (.int .u64 (iand .u64 (IntKind.u64.wrap ((iand .u64 q_2 6148914691236517205) + (iand .u64 x_1.v 6148914691236517205))) 3689348814741910323)) h12 fun h13 => ?_
  refine g2 11 13 (.int .u64 (IntKind.u64.wrap ((iand .u64 q_3 3689348814741910323) + (iand .u64 (IntKind.u64.wrap ((iand .u64 q_2 6148914691236517205) + (iand .u64 x_1.v 6148914691236517205))) 3689348814741910323)))) h11 h13 fun h14 => ?_
  refine gm h14 fun h0 => gq (.nsq (.seq (rg (gm h0 fun h15 => ?_))))
  obtain ⟨q_4, E_q_4, h⟩ := bind_some h
  refine gv (.int .u64 q_4) (ev_shr h15 rfl E_q_4) fun h16 => ?_
  refine gm h0 fun h17 => g2 16 17 (.int .u64 (IntKind.u64.wrap (q_4 + (IntKind.u64.wrap ((iand .u64 q_3 3689348814741910323) + (iand .u64 (IntKind.u64.wrap ((iand .u64 q_2 6148914691236517205) + (iand .u64 x_1.v 6148914691236517205))) 3689348814741910323)))))) h16 h17 fun h18 => ?_
  refine g1 18 (.int .u64 (iand .u64 (IntKind.u64.wrap (q_4 + (IntKind.u64.wrap ((iand .u64 q_3 3689348814741910323) + (iand .u64 (IntKind.u64.wrap ((iand .u64 q_2 6148914691236517205) + (iand .u64 x_1.v 6148914691236517205))) 3689348814741910323))))) 1085102592571150095)) h18 fun h19 => ?_
  refine gm h19 fun h0 => gq (.nsq (.seq (rg (gm h0 fun h20 => gm h0 fun h21 => ?_))))
  obtain ⟨q_5, E_q_5, h⟩ := bind_some h
  refine gv (.int .u64 q_5) (ev_shr h21 rfl E_q_5) fun h22 => ?_
  refine g2 20 22 (.int .u64 (IntKind.u64.wrap ((iand .u64 (IntKind.u64.wrap (q_4 + (IntKind.u64.wrap ((iand .u64 q_3 3689348814741910323) + (iand .u64 (IntKind.u64.wrap ((iand .u64 q_2 6148914691236517205) + (iand .u64 x_1.v 6148914691236517205))) 3689348814741910323))))) 1085102592571150095) + q_5))) h20 h22 fun h23 => ?_
  refine gm h23 fun h0 => gq (.nsq (.seq (rg (gm h0 fun h24 => gm h0 fun h25 => ?_))))
  obtain ⟨q_6, E_q_6, h⟩ := bind_some h
  refine gv (.int .u64 q_6) (ev_shr h25 rfl E_q_6) fun h26 => ?_
  refine g2 24 26 (.int .u64 (IntKind.u64.wrap ((IntKind.u64.wrap ((iand .u64 (IntKind.u64.wrap (q_4 + (IntKind.u64.wrap ((iand .u64 q_3 3689348814741910323) + (iand .u64 (IntKind.u64.wrap ((iand .u64 q_2 6148914691236517205) + (iand .u64 x_1.v 6148914691236517205))) 3689348814741910323))))) 1085102592571150095) + q_5)) + q_6))) h24 h26 fun h27 => ?_
  refine gm h27 fun h0 => gz [(0, _), (2, _)] ⟨h0, h2⟩ ?_
  rintro s ⟨h0, h2⟩
  refine .nsq (.seq (rg (gm h0 fun h28 => gm h0 fun h29 => ?_)))
  obtain ⟨q_7, E_q_7, h⟩ := bind_some h
  refine gv (.int .u64 q_7) (ev_shr h29 rfl E_q_7) fun h30 => ?_
  refine g2 28 30 (.int .u64 (IntKind.u64.wrap ((IntKind.u64.wrap ((IntKind.u64.wrap ((iand .u64 (IntKind.u64.wrap (q_4 + (IntKind.u64.wrap ((iand .u64 q_3 3689348814741910323) + (iand .u64 (IntKind.u64.wrap ((iand .u64 q_2 6148914691236517205) + (iand .u64 x_1.v 6148914691236517205))) 3689348814741910323))))) 1085102592571150095) + q_5)) + q_6)) + q_7))) h28 h30 fun h31 => ?_
  refine gm h31 fun h0 => gq (.nsq (.seq (rg (gm h0 fun h32 => g1 32 (ji (w64 (IntKind.u64.wrap ((IntKind.u64.wrap ((IntKind.u64.wrap ((iand .u64 (IntKind.u64.wrap (q_4 + (IntKind.u64.wrap ((iand .u64 q_3 3689348814741910323) + (iand .u64 (IntKind.u64.wrap ((iand .u64 q_2 6148914691236517205) + (iand .u64 x_1.v 6148914691236517205))) 3689348814741910323))))) 1085102592571150095) + q_5)) + q_6)) + q_7)))) h32 fun h33 => ?_))))
  refine g1 33 (ji (iand .i64 (w64 (IntKind.u64.wrap ((IntKind.u64.wrap ((IntKind.u64.wrap ((iand .u64 (IntKind.u64.wrap (q_4 + (IntKind.u64.wrap ((iand .u64 q_3 3689348814741910323) + (iand .u64 (IntKind.u64.wrap ((iand .u64 q_2 6148914691236517205) + (iand .u64 x_1.v 6148914691236517205))) 3689348814741910323))))) 1085102592571150095) + q_5)) + q_6)) + q_7))) 127)) h33 fun h34 => ?_
  refine gm h34 fun h2 => gq (.nsq (.ret ?_))
  have hr := Option.some.inj h
  subst hr
  exact rrA (res_tmp h2) rfl
end
def e33 (F : Nat) : Ent := ent 33 (fun (x : ((Kd .u64) × Unit)) => bits_OnesCount64 F x.1) (fun (r : Int) => (Enc.enc (r : Int))) 0 false []
theorem p33 {F : Nat} {x0 : (Kd .u64)} {r : Int} (h : bits_OnesCount64 F x0 = some r) : (e33 F).den [Enc.enc x0] = some (Enc.enc (r : Int)) := ent_put (x0, ()) h
theorem o33 {D : Den} {σ : Sig} {F : Nat} (hF : Fits2 Try.prog D σ) (H : H33 D σ F) : (e33 F).Ok Try.prog := by
  refine ok_of (f := 33) (show unk 33 = 33 from rfl) (fun args r h => ?_) ⟨Try.f33, Try.func33, rfl, rfl⟩
  obtain ⟨⟨x0, _⟩, y, rfl, hy, rfl⟩ := da_open h
  exact contract_run hF (by kernel_rfl) Try.func33 rfl c33 (show 1 ≤ Try.f33.ntmps by decide) (t33 H x0 _ rfl hy)
/- math/bits.OnesCount -/
def A19_2 : AC := (.seq (.reg [] [(jm 6 0), (.mk (some 7) none false (.call (.k (.fn 33 [] [])) [(.t 6)])), (jm 2 7)] []) .ret)
def A19_1 : AC := (.seq (.cond (.k (.bool false)) (.seq (.reg [] [(jm 3 0), ((jv 4 (.conv .u32 (.t 3)))), (.mk (some 5) none false (.call (.k (.fn 32 [] [])) [(.t 4)])), (jm 2 5)] []) .ret) .skip) A19_2)
def A19 : AC := (.seq (.reg [] [((jv 2 (.mov (jn 0))))] []) A19_1)
def an19 : List An := []
theorem c19 : cC Try.prog Try.f19.ntmps an19 (Try.f19.body.getD .skip) = some A19 := by kernel_rfl
structure H19 (D : Den) (σ : Sig) (F : Nat) : Prop where
  c33 : ∀ (x0 : (Kd .u64)) r, bits_OnesCount64 F x0 = some r → D 33 [Enc.enc x0] = some (Enc.enc (r : Int))
  g33 : σ 33 = some (0, false)
abbrev R19 (r : Int) : (Nat → V) → Prop := RR Try.prog [.tmp 2] 0 false (Enc.enc (r : Int))
section
variable {D : Den} {σ : Sig} {F : Nat} {r : Int}
def bits_OnesCount (F : Nat) (x_1 : (Kd .u64)) : Option Int :=
  (bits_OnesCount64 F (Kd.mk x_1.v : Kd .u64)).bind fun r_2 =>
  some r_2
theorem t19 (H : H19 D σ F) (x_1 : (Kd .u64)) (s : Nat → V) (hs : Facts [(0, (.int .u64 x_1.v))] s) (h : bits_OnesCount F x_1 = some r) : Run D σ (R19 r) (.run A19 []) s := by
  unfold bits_OnesCount at h
  have h0 := hs
  refine .seq (rg (g0 (ji 0) fun h2 => gq (.nsq (.seq (run_condF rfl ?_)))))
  refine .skip (.nsq (.seq (rg (gm h0 fun h6 => ?_))))
  obtain ⟨r_2, E_r_2, h⟩ := bind_some h
  refine g_call (m := 0) (al := false) (r := (Enc.enc (r_2 : Int))) [Enc.enc ((Kd.mk x_1.v : Kd .u64) : (Kd .u64))] (ta_cons (v := (.int .u64 x_1.v)) h6 rfl rfl ta_nil) (H.c33 _ _ E_r_2) H.g33 rfl rfl rfl rfl ?_
  refine gm (rfl : (_ : V) = (ji r_2)) fun h2 => ?_
  refine gq (.nsq (.ret ?_))
  have hr := Option.some.inj h
  subst hr
  exact rrA (res_tmp h2) rfl
end
def e19 (F : Nat) : Ent := ent 19 (fun (x : ((Kd .u64) × Unit)) => bits_OnesCount F x.1) (fun (r : Int) => (Enc.enc (r : Int))) 0 false []
theorem p19 {F : Nat} {x0 : (Kd .u64)} {r : Int} (h : bits_OnesCount F x0 = some r) : (e19 F).den [Enc.enc x0] = some (Enc.enc (r : Int)) := ent_put (x0, ()) h
theorem o19 {D : Den} {σ : Sig} {F : Nat} (hF : Fits2 Try.prog D σ) (H : H19 D σ F) : (e19 F).Ok Try.prog := by
  refine ok_of (f := 19) (show unk 19 = 19 from rfl) (fun args r h => ?_) ⟨Try.f19, Try.func19, rfl, rfl⟩
  obtain ⟨⟨x0, _⟩, y, rfl, hy, rfl⟩ := da_open h
  exact contract_run hF (by kernel_rfl) Try.func19 rfl c19 (show 1 ≤ Try.f19.ntmps by decide) (t19 H x0 _ rfl hy)
/- loop.example/g01109/impl.setOf -/
def A34_2 : AC := (.cond (.t 8) .skip (.exit 0))
def A34_4 : AC := (.cond (.t 15) (.reg [.clr [18, 19]] [(jm 16 3), (jm 17 4), (.mk (some 18) none false (.lit (.int .i64 (.ofNat 0)) 1 [(0, 0, (.t 17))])), (.mk (some 19) none false (.app .s (.t 16) (.t 18))), (jm 3 19)] [.home 19 3]) .skip)
def A34_5 : AC := (.reg [] [(jm 9 4), ((jv 10 (.bin .add (.t 9) (jn 1)))), (jm 4 10)] [])
def A34_3 : AC := (.seq (.block 1 (.seq (.reg [] [(jm 11 0), (jm 12 4), ((jv 13 (.bin .shr (.t 11) (.t 12)))), ((jv 14 (.bin .and (.t 13) (jn 1)))), ((jv 15 (.bin .eql (.t 14) (jn 1))))] []) A34_4)) A34_5)
def A34_1 : AC := (.seq (.seq (.reg [] [(jm 5 0), (jm 6 4), ((jv 7 (.bin .shr (.t 5) (.t 6)))), ((jv 8 (.bin .neq (.t 7) (jn 0))))] []) A34_2) A34_3)
def A34_6 : AC := (.seq (.reg [] [(jm 20 3), (jm 2 20)] [.home 3 2]) .ret)
def A34_9 : AC := (.block 0 (.loop A34_1))
def A34_8 : AC := (.seq (.seq (.reg [] [((jv 4 (.mov (jn 0))))] []) A34_9) A34_6)
def A34_7 : AC := (.seq (.reg [] [((jv 3 (.mov (.k (.sl .nl .s 0 [])))))] []) A34_8)
def A34 : AC := (.seq (.reg [] [((jv 2 (.mov (.k (.sl .nl .s 0 [])))))] []) A34_7)
def an34 : List An := [{ id := 6, pre := [.clr [18, 19]], ep := [.home 19 3], lin := [], sp := [] }, { id := 7, pre := [], ep := [.home 3 2], lin := [], sp := [] }]
theorem c34 : cC Try.prog Try.f34.ntmps an34 (Try.f34.body.getD .skip) = some A34 := by kernel_rfl
structure H34 (D : Den) (σ : Sig) (F : Nat) : Prop where
  mk ::
abbrev R34 (r : (List Int)) : (Nat → V) → Prop := RR Try.prog [.tmp 2] 0 false (Enc.enc (r : (List Int)))
section
variable {D : Den} {σ : Sig} {F : Nat} {r : (List Int)}
def i_setOf_j1 (F : Nat) (x_1 : Int) (x_8 : Int) (c1 : (NL Int) → Int → Option (List Int)) (x_17 : (NL Int)) : Option (List Int) :=
  c1 x_17 (w64 (x_8 + 1))
theorem t_f34_j1 (H : H34 D σ F) (x_1 : Int) (x_8 : Int) (c1 : (NL Int) → Int → Option (List Int)) (Hc1 : ∀ (x_7 : (NL Int)) (x_8 : Int) (s : Nat → V), Facts [(0, (ji x_1)), (2, (.sl .nl (Enc.shp Int) 0 [])), (3, (oI 3 [] x_7)), (4, (ji x_8))] s → c1 x_7 x_8 = some r → Run D σ (R34 r) (.run A34_1 [.lp A34_1, .bk 0, .sq A34_6]) s) (x_17 : (NL Int)) (s : Nat → V) (hs : Facts [(0, (ji x_1)), (2, (.sl .nl (Enc.shp Int) 0 [])), (3, (oI 3 [] x_17)), (4, (ji x_8))] s) (h : i_setOf_j1 F x_1 x_8 c1 x_17 = some r) : Run D σ (R34 r) (.nrm [.bk 1, .sq A34_5, .lp A34_1, .bk 0, .sq A34_6]) s := by
  unfold i_setOf_j1 at h
  obtain ⟨h0, h2, h3, h4⟩ := hs
  refine .nbk (.nsq (rg (gm h4 fun h9 => g1 9 (ji (w64 (x_8 + 1))) h9 fun h10 => ?_)))
  refine gm h10 fun h4 => gq (.nlp ?_)
  exact Hc1 x_17 (w64 (x_8 + 1)) _ ⟨h0, h2, h3, h4⟩ h
def i_setOf_l1 (F : Nat) (x_1 : Int)  : Nat → (NL Int) → Int → Option (List Int)
  | 0, _, _ => none
  | k + 1, x_7, x_8 =>
    (shrI .i64 x_1 x_8).bind fun q_14 =>
    bif (q_14 != 0) then
      (shrI .i64 x_1 x_8).bind fun q_15 =>
      bif ((iand .i64 q_15 1) == 1) then
        (appL x_7.list [x_8]).bind fun ap_18 =>
        i_setOf_j1 F x_1 x_8 (i_setOf_l1 F x_1 k) (.of ap_18)
      else
        i_setOf_j1 F x_1 x_8 (i_setOf_l1 F x_1 k) x_7
    else
      some x_7.list
theorem t_f34_l1 (H : H34 D σ F) (x_1 : Int)  : ∀ (k : Nat) (x_7 : (NL Int)) (x_8 : Int) (s : Nat → V), Facts [(0, (ji x_1)), (2, (.sl .nl (Enc.shp Int) 0 [])), (3, (oI 3 [] x_7)), (4, (ji x_8))] s → i_setOf_l1 F x_1 k x_7 x_8 = some r → Run D σ (R34 r) (.run A34_1 [.lp A34_1, .bk 0, .sq A34_6]) s := by
  intro k
  induction k with
  | zero => intro x_7 x_8 s _ h; exact nomatch (h : (none : Option _) = some r)
  | succ k ih =>
    intro x_7 x_8 s hs h
    rw [i_setOf_l1] at h
    obtain ⟨h0, h2, h3, h4⟩ := hs
    refine .seq (.seq (rg (gm h0 fun h5 => gm h4 fun h6 => ?_)))
    obtain ⟨q_14, E_q_14, h⟩ := bind_some h
    refine gv (ji q_14) (ev_shr h5 h6 E_q_14) fun h7 => ?_
    refine g1 7 (jb (q_14 != 0)) h7 fun h8 => ?_
    refine gq (.nsq (run_cond (t := (q_14 != 0)) h8 h (fun h => ?_) (fun h => ?_)))
    · refine .skip (.nsq (.seq (.block (.seq (rg (gm h0 fun h11 => gm h4 fun h12 => ?_))))))
      obtain ⟨q_15, E_q_15, h⟩ := bind_some h
      refine gv (ji q_15) (ev_shr h11 h12 E_q_15) fun h13 => ?_
      refine g1 13 (ji (iand .i64 q_15 1)) h13 fun h14 => ?_
      refine g1 14 (jb ((iand .i64 q_15 1) == 1)) h14 fun h15 => ?_
      refine gq (.nsq (run_cond (t := ((iand .i64 q_15 1) == 1)) h15 h (fun h => ?_) (fun h => ?_)))
      · refine run_reg ?_
        refine e_clr ?_
        refine ez [(0, _), (2, _), (3, _), (4, _), (18, _), (19, _)] ⟨(keep_clear (pk := [18, 19]) h0 rfl mi), (keep_clear (pk := [18, 19]) h2 rfl rfl), (keep_clear (pk := [18, 19]) h3 rfl (map_encO (r := 3) (p := []) rfl rfl)), (keep_clear (pk := [18, 19]) h4 rfl mi), (gone_clear (pk := [18, 19]) (t := 18) rfl), (gone_clear (pk := [18, 19]) (t := 19) rfl)⟩ ?_
        rintro s ⟨h0, h2, h3, h4, h18, h19⟩
        refine gv (oI 3 [] x_7) (ev_mov h3 ok_encO) fun h16 => ?_
        refine gm h4 fun h17 => g_litL [(17, (ji x_8))] [Enc.enc (x_8 : Int)] h17 rfl rfl h18 ?_
        obtain ⟨ap_18, E_ap_18, h⟩ := bind_some h
        refine g_app (q := 3) (p := []) (o := (x_7 : NL Int)) (ys := ([x_8] : List Int)) (t2 := (.at 18 [])) (lo2 := 0) h16 rfl rfl h19 (appN_L (o := (x_7 : NL Int)) E_ap_18 (by split <;> simp)) (fun s_17 ha_17 => ?_)
        refine gm (rfl : (_ : V) = (oI 19 [] (.of ap_18))) fun h3 => ?_
        refine g_end ?_
        refine e_home (r := 19) (x := 3) (v := _) h3 rfl (fun s_18 hg_18 => ?_)
        refine ez [(0, (ji x_1)), (2, (.sl .nl (Enc.shp Int) 0 [])), (3, (oI 3 [] (.of ap_18))), (4, (ji x_8))] ⟨(hg_18 0 _ _ (show s_17 0 = (ji x_1) from keep_app ha_17 h0 mi) mi), (hg_18 2 _ (.sl .nl (Enc.shp Int) 0 []) (show s_17 2 = (.sl .nl (Enc.shp Int) 0 []) from keep_app ha_17 h2 rfl) rfl), (hg_18 3 _ _ h3 (map_encO (r := 19) (p := []) rfl rfl)), (hg_18 4 _ _ (show s_17 4 = (ji x_8) from keep_app ha_17 h4 mi) mi)⟩ ?_
        rintro s ⟨h0, h2, h3, h4⟩
        exact t_f34_j1 H x_1 x_8 (i_setOf_l1 F x_1 k) ih (.of ap_18) _ ⟨h0, h2, h3, h4⟩ h
      refine .skip ?_
      exact t_f34_j1 H x_1 x_8 (i_setOf_l1 F x_1 k) ih x_7 _ ⟨h0, h2, h3, h4⟩ h
    refine .exit (.esq (.elp (.ebk (.nsq (.seq (rg (gv (oI 3 [] x_7) (ev_mov h3 ok_encO) fun h20 => ?_)))))))
    refine gv (oI 3 [] x_7) (ev_mov h20 ok_encO) fun h2 => ?_
    refine g_end ?_
    refine e_home (r := 3) (x := 2) (v := _) h2 ok_encO (fun s_19 hg_19 => ?_)
    refine ez [(2, (oI 2 [] x_7))] (hg_19 2 _ _ h2 (map_encO (r := 3) (p := []) rfl rfl)) ?_
    rintro s h2
    refine .nsq (.ret ?_)
    have hr := Option.some.inj h
    subst hr
    exact rrA (res_tmp h2) (fin_retF (fin_own (o := x_7)) (mine_own rfl))
def i_setOf (F : Nat) (x_1 : Int) : Option (List Int) :=
  i_setOf_l1 F x_1 F .nil 0
theorem t34 (H : H34 D σ F) (x_1 : Int) (s : Nat → V) (hs : Facts [(0, (ji x_1))] s) (h : i_setOf F x_1 = some r) : Run D σ (R34 r) (.run A34 []) s := by
  unfold i_setOf at h
  have h0 := hs
  refine .seq (rg (g0 (.sl .nl (Enc.shp Int) 0 []) fun h2 => ?_))
  refine gq (.nsq (.seq (rg (g0 (.sl .nl (Enc.shp Int) 0 []) fun h3 => ?_))))
  refine gq (.nsq (.seq (.seq (rg (g0 (ji 0) fun h4 => gq (.nsq (.block (.loop ?_))))))))
  exact t_f34_l1 H x_1 F .nil 0 _ ⟨h0, h2, h3, h4⟩ h
end
def e34 (F : Nat) : Ent := ent 34 (fun (x : (Int × Unit)) => i_setOf F x.1) (fun (r : (List Int)) => (Enc.enc (r : (List Int)))) 0 false []
theorem p34 {F : Nat} {x0 : Int} {r : (List Int)} (h : i_setOf F x0 = some r) : (e34 F).den [Enc.enc x0] = some (Enc.enc (r : (List Int))) := ent_put (x0, ()) h
theorem o34 {D : Den} {σ : Sig} {F : Nat} (hF : Fits2 Try.prog D σ) (H : H34 D σ F) : (e34 F).Ok Try.prog := by
  refine ok_of (f := 34) (show unk 34 = 34 from rfl) (fun args r h => ?_) ⟨Try.f34, Try.func34, rfl, rfl⟩
  obtain ⟨⟨x0, _⟩, y, rfl, hy, rfl⟩ := da_open h
  exact contract_run hF (by kernel_rfl) Try.func34 rfl c34 (show 1 ≤ Try.f34.ntmps by decide) (t34 H x0 _ rfl hy)
end Go.Zq
