/- Functions of the program as typed functions, and that the machine runs as they say (part 2). No further condition. -/
import Derived.Test.YtdhbhaaiohkpdaaK4
import Derived.Test.YtdhbhaaiohkpdaaProg
import Derived.Test.YtdhbhaaiohkpdaaChecked
import Derived.KernelRfl
import Derived.Test.YtdhbhaaiohkpdaaG1
set_option linter.unusedVariables false
set_option linter.unusedSimpArgs false
/- Functions of the program, as typed functions, and that the machine runs as they say. -/
namespace Go.Zq
open Go.Proofs
/- loop.example/g01109/spec.l7Grow -/
def A140_2 : AC := (.cond (.t 23) .skip (.exit 0))
def A140_5 : AC := (.reg [.clr [46]] [((jv 36 (.load (.ag [.s, .p]) (.t 5)))), (jm 37 1), (jm 38 11), (jm 39 12), (jm 40 13), ((jv 41 (.idx (.t 39) (.t 40) 1))), ((jv 42 (.load .p (.t 41)))), (jm 43 14), (.mk (some 44) none false (.call (.k (.fn 109 [] [])) [(.t 42), (.t 43)])), (jm 45 14), (.mk (some 46) none false (.callO (.k (.fn 140 [] [])) [(.t 36), (.t 37), (.t 38), (.t 44), (.t 45)])), (jm 11 46)] [.home 46 11])
def A140_4 : AC := (.seq (.reg [] [(jm 32 11), (jm 33 14), (jm 34 4), ((jv 35 (.idx (.t 32) (.t 33) 1))), (.mk none none false (.store .s (.t 35) (.t 34)))] []) A140_5)
def A140_6 : AC := (.reg [] [(jm 24 13), ((jv 25 (.bin .add (.t 24) (jn 1)))), (jm 13 25)] [])
def A140_3 : AC := (.seq (.block 1 (.seq (.reg [] [(jm 26 1), (jm 27 12), (jm 28 13), ((jv 29 (.idx (.t 27) (.t 28) 1))), ((jv 30 (.load .p (.t 29)))), (.mk (some 31) none false (.call (.k (.fn 174 [] [])) [(.t 26), (.t 30)])), (jm 14 31)] []) A140_4)) A140_6)
def A140_1 : AC := (.seq (.seq (.reg [] [(jm 20 13), (jm 21 12), ((jv 22 (.len (.t 21)))), ((jv 23 (.bin .lss (.t 20) (.t 22))))] []) A140_2) A140_3)
def A140_7 : AC := (.seq (.reg [] [(jm 47 11), (jm 10 47)] [.home 11 10]) .ret)
def A140_11 : AC := (.block 0 (.loop A140_1))
def A140_10 : AC := (.seq (.seq (.reg [] [((jv 13 (.mov (jn 0))))] []) A140_11) A140_7)
def A140_9 : AC := (.seq (.reg [] [((jv 17 (.load (.ag [.s, .p]) (.t 5)))), (jm 18 3), (.mk (some 19) none false (.call (.k (.fn 148 [] [])) [(.t 17), (.t 18)])), (jm 12 19)] []) A140_10)
def A140_8 : AC := (.seq (.reg [.clr [16]] [(jm 15 2), (.mk (some 16) none false (.callO (.k (.fn 97 [] [])) [(.t 15)])), (jm 11 16)] [.home 16 11]) A140_9)
def A140 : AC := (.seq (.reg [.clr [5]] [(.mk (some 5) none false (.box (.t 0))), ((jv 10 (.mov (.k (.sl .nl .s 0 [])))))] []) A140_8)
def an140 : List An := [{ id := 0, pre := [.clr [5]], ep := [], lin := [], sp := [] }, { id := 1, pre := [.clr [16]], ep := [.home 16 11], lin := [], sp := [1001] }, { id := 8, pre := [.clr [46]], ep := [.home 46 11], lin := [], sp := [1010] }, { id := 9, pre := [], ep := [.home 11 10], lin := [], sp := [] }]
theorem c140 : cC Try.prog Try.f140.ntmps an140 (Try.f140.body.getD .skip) = some A140 := by kernel_rfl
structure H140 (D : Den) (σ : Sig) (F : Nat) (rc : (Int × (List (Int × Int))) → (List Int) → (List Int) → (List Int) → Int → Option (List Int)) : Prop where
  c97o : ∀ (x0 : (List Int)) r, s_l1Own_o F x0 = some r → D 1000000097 [Enc.enc x0] = some (encO .sh (r : NL Int))
  g97o : σ 1000000097 = some (1, false)
  c148 : ∀ (x0 : (Int × (List (Int × Int)))) (x1 : (List Int)) r, s_l2Parts F x0 x1 = some r → D 148 [Enc.enc x0, Enc.enc x1] = some (Enc.enc (r : (List (List Int))))
  g148 : σ 148 = some (0, true)
  c174 : ∀ (x0 : (List Int)) (x1 : (List Int)) r, s_l7Root F x0 x1 = some r → D 174 [Enc.enc x0, Enc.enc x1] = some (Enc.enc (r : Int))
  g174 : σ 174 = some (0, false)
  c109 : ∀ (x0 : (List Int)) (x1 : Int) r, s_l2Without F x0 x1 = some r → D 109 [Enc.enc x0, Enc.enc x1] = some (Enc.enc (r : (List Int)))
  g109 : σ 109 = some (0, false)
  c140o : ∀ (x0 : (Int × (List (Int × Int)))) (x1 : (List Int)) (x2 : (List Int)) (x3 : (List Int)) (x4 : Int) r, s_l7Grow_o F x0 x1 x2 x3 x4 = some r → D 1000000140 [Enc.enc x0, Enc.enc x1, Enc.enc x2, Enc.enc x3, Enc.enc x4] = some (encO .sh (r : NL Int))
  g140o : σ 1000000140 = some (1, false)
abbrev R140 (r : (List Int)) : (Nat → V) → Prop := RR Try.prog [.tmp 10] 0 false (Enc.enc (r : (List Int)))
section
variable {D : Den} {σ : Sig} {F : Nat} {rc : (Int × (List (Int × Int))) → (List Int) → (List Int) → (List Int) → Int → Option (List Int)} {r : (List Int)}
def s_l7Grow_l1 (F : Nat) (rc : (Int × (List (Int × Int))) → (List Int) → (List Int) → (List Int) → Int → Option (List Int)) (x_2 : (List Int)) (x_5 : Int) (x_1 : (Int × (List (Int × Int)))) (r_7 : (List (List Int)))  : Nat → (NL Int) → Int → Option (List Int)
  | 0, _, _ => none
  | k + 1, x_14, x_15 =>
    bif decide (x_15 < (r_7.length : Int)) then
      (idx r_7 x_15).bind fun e_22 =>
      (s_l7Root F x_2 e_22).bind fun r_23 =>
      (idx x_14.list r_23).bind fun e_24 =>
      (idx r_7 x_15).bind fun e_25 =>
      (s_l2Without F e_25 r_23).bind fun r_26 =>
      (s_l7Grow_o F x_1 x_2 ((NL.set x_14 r_23.toNat x_5).list) r_26 r_23).bind fun r_27 =>
      (s_l7Grow_l1 F rc x_2 x_5 x_1 r_7 k) r_27 (w64 (x_15 + 1))
    else
      some x_14.list
theorem t_f140_l1 (H : H140 D σ F rc) (x_2 : (List Int)) (x_5 : Int) (x_1 : (Int × (List (Int × Int)))) (r_7 : (List (List Int)))  : ∀ (k : Nat) (x_14 : (NL Int)) (x_15 : Int) (s : Nat → V), Facts [(1, (eL x_2)), (4, (ji x_5)), (5, (.ref (.bx 5) 0 [] (.agg [(ji x_1.1), (Enc.enc (x_1.2 : List (Int × Int)))]))), (10, (.sl .nl (Enc.shp Int) 0 [])), (11, (oI 11 [] x_14)), (12, (Enc.enc (r_7 : List (List Int)))), (13, (ji x_15))] s → s_l7Grow_l1 F rc x_2 x_5 x_1 r_7 k x_14 x_15 = some r → Run D σ (R140 r) (.run A140_1 [.lp A140_1, .bk 0, .sq A140_7]) s := by
  intro k
  induction k with
  | zero => intro x_14 x_15 s _ h; exact nomatch (h : (none : Option _) = some r)
  | succ k ih =>
    intro x_14 x_15 s hs h
    rw [s_l7Grow_l1] at h
    obtain ⟨h1, h4, h5, h10, h11, h12, h13⟩ := hs
    refine .seq (.seq (rg (gm h13 fun h20 => gm h12 fun h21 => gv (ji (r_7.length : Int)) (ev_len (xs := r_7) h21) fun h22 => ?_)))
    refine g2 20 22 (jb (decide (x_15 < (r_7.length : Int)))) h20 h22 fun h23 => ?_
    refine gq (.nsq (run_cond (t := decide (x_15 < (r_7.length : Int))) h23 h (fun h => ?_) (fun h => ?_)))
    · refine .skip (.nsq (.seq (.block (.seq (rg (gm h1 fun h26 => gm h12 fun h27 => gm h13 fun h28 => ?_))))))
      obtain ⟨e_22, E_e_22, h⟩ := bind_some h
      refine gv (.ref .sh 0 [] (eL e_22)) (ev_idx (t := .sh) (lo := 0) (xs := r_7) h27 h28 E_e_22 rfl rfl) fun h29 => ?_
      refine g1 29 (eL e_22) h29 fun h30 => ?_
      obtain ⟨r_23, E_r_23, h⟩ := bind_some h
      refine g_call (m := 0) (al := false) (r := (Enc.enc (r_23 : Int))) [Enc.enc (x_2 : (List Int)), Enc.enc (e_22 : (List Int))] (ta_cons (v := (eL x_2)) h26 rfl (Enc.erase_enc (x_2 : (List Int))) (ta_cons (v := (eL e_22)) h30 rfl (Enc.erase_enc (e_22 : (List Int))) ta_nil)) (H.c174 _ _ _ E_r_23) H.g174 rfl rfl rfl rfl ?_
      refine gm (rfl : (_ : V) = (ji r_23)) fun h14 => ?_
      refine gq (.nsq (.seq (rg (gv (oI 11 [] x_14) (ev_mov h11 ok_encO) fun h32 => ?_))))
      refine gm h14 fun h33 => gm h4 fun h34 => ?_
      obtain ⟨e_24, E_e_24, h⟩ := bind_some h
      refine gv (.ref (.at 11 []) r_23.toNat [] (ji e_24)) (ev_idxO (o := x_14) h32 h33 E_e_24 rfl) fun h35 => ?_
      refine g_store (ji x_5) (rd_of h35 rfl) (rd_of h34 rfl) (by refine ⟨by decide, by decide, rfl, rfl, rfl, ?_⟩; first | rfl | (simp [V.toks, V.tokss, Enc.toks_enc]; done) | simp [V.toks, V.tokss, Enc.toks_enc, tok_memP]) ?_
      refine gz [(1, (eL x_2)), (4, (ji x_5)), (5, (.ref (.bx 5) 0 [] (.agg [(ji x_1.1), (Enc.enc (x_1.2 : List (Int × Int)))]))), (10, (.sl .nl (Enc.shp Int) 0 [])), (11, _), (12, (Enc.enc (r_7 : List (List Int)))), (13, (ji x_15)), (14, (ji r_23))] ⟨(keep_mut h1 (Enc.mut_enc _ _ _ _ (x_2 : List Int))), (keep_mut h4 rfl), (keep_mut h5 (mut_ref_ne rfl rfl (mut_agg (muts_cons rfl (muts_cons (Enc.mut_enc _ _ _ _ (x_1.2 : List (Int × Int))) rfl))))), (keep_mut h10 rfl), (keep_mut h11 (mut_ownN (α := Int) (u := x_5) (i := r_23.toNat) (o := x_14))), (keep_mut h12 (Enc.mut_enc _ _ _ _ (r_7 : List (List Int)))), (keep_mut h13 rfl), (keep_mut h14 rfl)⟩ ?_
      rintro s ⟨h1, h4, h5, h10, h11, h12, h13, h14⟩
      refine .nsq (run_reg ?_)
      refine e_clr ?_
      refine ez [(1, _), (4, _), (5, _), (10, _), (11, _), (12, _), (13, _), (14, _), (46, _)] ⟨(keep_clear (pk := [46]) h1 rfl me), (keep_clear (pk := [46]) h4 rfl mi), (keep_clear (pk := [46]) h5 rfl (map_bx rfl (map_agg (maps_cons mi (maps_cons me maps_nil))))), (keep_clear (pk := [46]) h10 rfl rfl), (keep_clear (pk := [46]) h11 rfl (map_encO (r := 11) (p := []) rfl rfl)), (keep_clear (pk := [46]) h12 rfl me), (keep_clear (pk := [46]) h13 rfl mi), (keep_clear (pk := [46]) h14 rfl mi), (gone_clear (pk := [46]) (t := 46) rfl)⟩ ?_
      rintro s ⟨h1, h4, h5, h10, h11, h12, h13, h14, h46⟩
      refine g1 5 (.agg [(ji x_1.1), (Enc.enc (x_1.2 : List (Int × Int)))]) h5 fun h36 => ?_
      refine gm h1 fun h37 => gv (oI 11 [] (NL.set x_14 r_23.toNat x_5)) (ev_mov h11 ok_encO) fun h38 => ?_
      refine gm h12 fun h39 => gm h13 fun h40 => ?_
      obtain ⟨e_25, E_e_25, h⟩ := bind_some h
      refine gv (.ref .sh 0 [] (eL e_25)) (ev_idx (t := .sh) (lo := 0) (xs := r_7) h39 h40 E_e_25 rfl rfl) fun h41 => ?_
      refine g1 41 (eL e_25) h41 fun h42 => ?_
      refine gm h14 fun h43 => ?_
      obtain ⟨r_26, E_r_26, h⟩ := bind_some h
      refine g_call (m := 0) (al := false) (r := (Enc.enc (r_26 : (List Int)))) [Enc.enc (e_25 : (List Int)), Enc.enc (r_23 : Int)] (ta_cons (v := (eL e_25)) h42 rfl (Enc.erase_enc (e_25 : (List Int))) (ta_cons (v := (ji r_23)) h43 rfl rfl ta_nil)) (H.c109 _ _ _ E_r_26) H.g109 rfl rfl rfl rfl ?_
      refine gm h14 fun h45 => ?_
      obtain ⟨r_27, E_r_27, h⟩ := bind_some h
      refine g_callO (m := 1) (al := false) (r := (encO .sh (r_27 : NL Int))) (v := (oI 46 [] r_27)) (kk := 1000000140) [Enc.enc (x_1 : (Int × (List (Int × Int)))), Enc.enc (x_2 : (List Int)), Enc.enc ((NL.set x_14 r_23.toNat x_5).list : (List Int)), Enc.enc (r_26 : (List Int)), Enc.enc (r_23 : Int)] (ta_cons (v := (.agg [(ji x_1.1), (Enc.enc (x_1.2 : List (Int × Int)))])) h36 rfl (Enc.erase_enc (x_1 : (Int × (List (Int × Int))))) (ta_cons (v := (eL x_2)) h37 rfl (Enc.erase_enc (x_2 : (List Int))) (ta_cons (v := (oI 11 [] (NL.set x_14 r_23.toNat x_5))) h38 ok_encP (erase_encO (o := (NL.set x_14 r_23.toNat x_5))) (ta_cons (v := (eL r_26)) rfl rfl (Enc.erase_enc (r_26 : (List Int))) (ta_cons (v := (ji r_23)) h45 rfl rfl ta_nil))))) (H.c140o _ _ _ _ _ _ E_r_27) H.g140o rfl toks_encS tag_encO ok_encP h46 ?_
      refine gv (oI 46 [] r_27) (ev_mov rfl ok_encO) fun h11 => ?_
      refine g_end ?_
      refine e_home (r := 46) (x := 11) (v := _) h11 ok_encO (fun s_9 hg_9 => ?_)
      refine ez [(1, (eL x_2)), (4, (ji x_5)), (5, (.ref (.bx 5) 0 [] (.agg [(ji x_1.1), (Enc.enc (x_1.2 : List (Int × Int)))]))), (10, (.sl .nl (Enc.shp Int) 0 [])), (11, (oI 11 [] r_27)), (12, (Enc.enc (r_7 : List (List Int)))), (13, (ji x_15))] ⟨(hg_9 1 _ _ h1 me), (hg_9 4 _ _ h4 mi), (hg_9 5 _ _ h5 (map_bx rfl (map_agg (maps_cons mi (maps_cons me maps_nil))))), (hg_9 10 _ (.sl .nl (Enc.shp Int) 0 []) h10 rfl), (hg_9 11 _ _ h11 (map_encO (r := 46) (p := []) rfl rfl)), (hg_9 12 _ _ h12 me), (hg_9 13 _ _ h13 mi)⟩ ?_
      rintro s ⟨h1, h4, h5, h10, h11, h12, h13⟩
      refine .nbk (.nsq (rg (gm h13 fun h24 => g1 24 (ji (w64 (x_15 + 1))) h24 fun h25 => ?_)))
      refine gm h25 fun h13 => gq (.nlp ?_)
      exact ih r_27 (w64 (x_15 + 1)) _ ⟨h1, h4, h5, h10, h11, h12, h13⟩ h
    refine .exit (.esq (.elp (.ebk (.nsq (.seq (rg (gv (oI 11 [] x_14) (ev_mov h11 ok_encO) fun h47 => ?_)))))))
    refine gv (oI 11 [] x_14) (ev_mov h47 ok_encO) fun h10 => ?_
    refine g_end ?_
    refine e_home (r := 11) (x := 10) (v := _) h10 ok_encO (fun s_10 hg_10 => ?_)
    refine ez [(10, (oI 10 [] x_14))] (hg_10 10 _ _ h10 (map_encO (r := 11) (p := []) rfl rfl)) ?_
    rintro s h10
    refine .nsq (.ret ?_)
    have hr := Option.some.inj h
    subst hr
    exact rrA (res_tmp h10) (fin_retF (fin_own (o := x_14)) (mine_own rfl))
def s_l7Grow_b (F : Nat) (rc : (Int × (List (Int × Int))) → (List Int) → (List Int) → (List Int) → Int → Option (List Int)) (x_1 : (Int × (List (Int × Int)))) (x_2 : (List Int)) (x_3 : (List Int)) (x_4 : (List Int)) (x_5 : Int) : Option (List Int) :=
  (s_l1Own_o F x_3).bind fun r_6 =>
  (s_l2Parts F x_1 x_4).bind fun r_7 =>
  s_l7Grow_l1 F rc x_2 x_5 x_1 r_7 F r_6 0
theorem t140 (H : H140 D σ F rc) (x_1 : (Int × (List (Int × Int)))) (x_2 : (List Int)) (x_3 : (List Int)) (x_4 : (List Int)) (x_5 : Int) (s : Nat → V) (hs : Facts [(0, (.agg [(ji x_1.1), (Enc.enc (x_1.2 : List (Int × Int)))])), (1, (eL x_2)), (2, (eL x_3)), (3, (eL x_4)), (4, (ji x_5))] s) (h : s_l7Grow_b F rc x_1 x_2 x_3 x_4 x_5 = some r) : Run D σ (R140 r) (.run A140 []) s := by
  unfold s_l7Grow_b at h
  obtain ⟨h0, h1, h2, h3, h4⟩ := hs
  refine .seq (run_reg ?_)
  refine e_clr ?_
  refine ez [(0, _), (1, _), (2, _), (3, _), (4, _), (5, _)] ⟨(keep_clear (pk := [5]) h0 rfl (map_agg (maps_cons mi (maps_cons me maps_nil)))), (keep_clear (pk := [5]) h1 rfl me), (keep_clear (pk := [5]) h2 rfl me), (keep_clear (pk := [5]) h3 rfl me), (keep_clear (pk := [5]) h4 rfl mi), (gone_clear (pk := [5]) (t := 5) rfl)⟩ ?_
  rintro s ⟨h0, h1, h2, h3, h4, h5⟩
  refine g_box (.agg [(ji x_1.1), (Enc.enc (x_1.2 : List (Int × Int)))]) (rd_of h0 rfl) h5 rfl ?_
  refine g0 (.sl .nl (Enc.shp Int) 0 []) fun h10 => ?_
  refine gq (.nsq (.seq (run_reg ?_)))
  refine e_clr ?_
  refine ez [(1, _), (2, _), (3, _), (4, _), (5, _), (10, _), (16, _)] ⟨(keep_clear (pk := [16]) h1 rfl me), (keep_clear (pk := [16]) h2 rfl me), (keep_clear (pk := [16]) h3 rfl me), (keep_clear (pk := [16]) h4 rfl mi), (keep_clear (pk := [16]) rfl rfl (map_bx rfl (map_agg (maps_cons mi (maps_cons me maps_nil))))), (keep_clear (pk := [16]) h10 rfl rfl), (gone_clear (pk := [16]) (t := 16) rfl)⟩ ?_
  rintro s ⟨h1, h2, h3, h4, h5, h10, h16⟩
  refine gm h2 fun h15 => ?_
  obtain ⟨r_6, E_r_6, h⟩ := bind_some h
  refine g_callO (m := 1) (al := false) (r := (encO .sh (r_6 : NL Int))) (v := (oI 16 [] r_6)) (kk := 1000000097) [Enc.enc (x_3 : (List Int))] (ta_cons (v := (eL x_3)) h15 rfl (Enc.erase_enc (x_3 : (List Int))) ta_nil) (H.c97o _ _ E_r_6) H.g97o rfl toks_encS tag_encO ok_encP h16 ?_
  refine gv (oI 16 [] r_6) (ev_mov rfl ok_encO) fun h11 => ?_
  refine g_end ?_
  refine e_home (r := 16) (x := 11) (v := _) h11 ok_encO (fun s_3 hg_3 => ?_)
  refine ez [(1, (eL x_2)), (3, (eL x_4)), (4, (ji x_5)), (5, (.ref (.bx 5) 0 [] (.agg [(ji x_1.1), (Enc.enc (x_1.2 : List (Int × Int)))]))), (10, (.sl .nl (Enc.shp Int) 0 [])), (11, (oI 11 [] r_6))] ⟨(hg_3 1 _ _ h1 me), (hg_3 3 _ _ h3 me), (hg_3 4 _ _ h4 mi), (hg_3 5 _ _ h5 (map_bx rfl (map_agg (maps_cons mi (maps_cons me maps_nil))))), (hg_3 10 _ (.sl .nl (Enc.shp Int) 0 []) h10 rfl), (hg_3 11 _ _ h11 (map_encO (r := 16) (p := []) rfl rfl))⟩ ?_
  rintro s ⟨h1, h3, h4, h5, h10, h11⟩
  refine .nsq (.seq (rg (g1 5 (.agg [(ji x_1.1), (Enc.enc (x_1.2 : List (Int × Int)))]) h5 fun h17 => ?_)))
  refine gm h3 fun h18 => ?_
  obtain ⟨r_7, E_r_7, h⟩ := bind_some h
  refine g_call (m := 0) (al := true) (r := (Enc.enc (r_7 : (List (List Int))))) [Enc.enc (x_1 : (Int × (List (Int × Int)))), Enc.enc (x_4 : (List Int))] (ta_cons (v := (.agg [(ji x_1.1), (Enc.enc (x_1.2 : List (Int × Int)))])) h17 rfl (Enc.erase_enc (x_1 : (Int × (List (Int × Int))))) (ta_cons (v := (eL x_4)) h18 rfl (Enc.erase_enc (x_4 : (List Int))) ta_nil)) (H.c148 _ _ _ E_r_7) H.g148 (hal_of (ht_cons (v := (.agg [(ji x_1.1), (Enc.enc (x_1.2 : List (Int × Int)))])) h17 rfl rfl (ht_cons (v := (eL x_4)) h18 rfl rfl ht_nil))) rfl rfl rfl ?_
  refine gm (rfl : (_ : V) = (Enc.enc (r_7 : List (List Int)))) fun h12 => ?_
  refine gq (.nsq (.seq (.seq (rg (g0 (ji 0) fun h13 => gq (.nsq (.block (.loop ?_))))))))
  exact t_f140_l1 H x_2 x_5 x_1 r_7 F r_6 0 _ ⟨h1, h4, h5, h10, h11, h12, h13⟩ h
end
def s_l7Grow_r (F : Nat) : Nat → (Int × (List (Int × Int))) → (List Int) → (List Int) → (List Int) → Int → Option (List Int)
  | 0, _, _, _, _, _ => none
  | k + 1, x0, x1, x2, x3, x4 => s_l7Grow_b F (s_l7Grow_r F k) x0 x1 x2 x3 x4
def s_l7Grow (F : Nat) (x0 : (Int × (List (Int × Int)))) (x1 : (List Int)) (x2 : (List Int)) (x3 : (List Int)) (x4 : Int) : Option (List Int) := s_l7Grow_r F F x0 x1 x2 x3 x4
def e140 (F : Nat) (k : Nat) : Ent := ent 140 (fun (x : ((Int × (List (Int × Int))) × (List Int) × (List Int) × (List Int) × Int × Unit)) => s_l7Grow_r F k x.1 x.2.1 x.2.2.1 x.2.2.2.1 x.2.2.2.2.1) (fun (r : (List Int)) => (Enc.enc (r : (List Int)))) 0 false []
theorem p140 {F : Nat} {k : Nat} {x0 : (Int × (List (Int × Int)))} {x1 : (List Int)} {x2 : (List Int)} {x3 : (List Int)} {x4 : Int} {r : (List Int)} (h : s_l7Grow_r F k x0 x1 x2 x3 x4 = some r) : (e140 F k).den [Enc.enc x0, Enc.enc x1, Enc.enc x2, Enc.enc x3, Enc.enc x4] = some (Enc.enc (r : (List Int))) := ent_put (x0, x1, x2, x3, x4, ()) h
theorem z140 {F : Nat} : (e140 F 0).Ok Try.prog := by
  refine ok_of (f := 140) (show unk 140 = 140 from rfl) (fun args r h => ?_) ⟨Try.f140, Try.func140, rfl, rfl⟩
  obtain ⟨⟨x0, x1, x2, x3, x4, _⟩, y, rfl, hy, rfl⟩ := da_open h
  cases hy
theorem o140 {D : Den} {σ : Sig} {F k : Nat} (hF : Fits2 Try.prog D σ) (H : H140 D σ F (s_l7Grow_r F k)) : (e140 F (k + 1)).Ok Try.prog := by
  refine ok_of (f := 140) (show unk 140 = 140 from rfl) (fun args r h => ?_) ⟨Try.f140, Try.func140, rfl, rfl⟩
  obtain ⟨⟨x0, x1, x2, x3, x4, _⟩, y, rfl, hy, rfl⟩ := da_open h
  exact contract_run hF (by kernel_rfl) Try.func140 rfl c140 (show 5 ≤ Try.f140.ntmps by decide) (t140 H x0 x1 x2 x3 x4 _ ⟨rfl, rfl, rfl, rfl, rfl⟩ hy)
/- loop.example/g01109/spec.l7Best -/
def A77_1 : AC := (.seq (.reg [.clr [8]] [((jv 3 (.load (.ag [.s, .p]) (.t 1)))), ((jv 4 (.load (.ag [.s, .p]) (.t 1)))), (.mk (some 5) none false (.call (.k (.fn 107 [] [])) [(.t 4)])), ((jv 6 (.fld (.t 1) 0 0))), ((jv 7 (.load .s (.t 6)))), (.mk (some 8) none false (.mk (.t 7) (.int .i64 (.ofNat 0)) (.int .i64 (.ofNat 0)))), ((jv 9 (.load (.ag [.s, .p]) (.t 1)))), (.mk (some 10) none false (.call (.k (.fn 86 [] [])) [(.t 9)])), (.mk (some 11) none false (.call (.k (.fn 140 [] [])) [(.t 3), (.t 5), (.t 8), (.t 10), (jn (-1))])), (jm 2 11)] []) .ret)
def A77 : AC := (.seq (.reg [.clr [1]] [(.mk (some 1) none false (.box (.t 0))), ((jv 2 (.mov (.k (.sl .nl .s 0 [])))))] []) A77_1)
def an77 : List An := [{ id := 0, pre := [.clr [1]], ep := [], lin := [], sp := [] }, { id := 1, pre := [.clr [8]], ep := [], lin := [], sp := [] }]
theorem c77 : cC Try.prog Try.f77.ntmps an77 (Try.f77.body.getD .skip) = some A77 := by kernel_rfl
structure H77 (D : Den) (σ : Sig) (F : Nat) : Prop where
  c107 : ∀ (x0 : (Int × (List (Int × Int)))) r, s_l7Depths F x0 = some r → D 107 [Enc.enc x0] = some (Enc.enc (r : (List Int)))
  g107 : σ 107 = some (0, false)
  c86 : ∀ (x0 : (Int × (List (Int × Int)))) r, s_l2All F x0 = some r → D 86 [Enc.enc x0] = some (Enc.enc (r : (List Int)))
  g86 : σ 86 = some (0, true)
  c140 : ∀ (x0 : (Int × (List (Int × Int)))) (x1 : (List Int)) (x2 : (List Int)) (x3 : (List Int)) (x4 : Int) r, s_l7Grow F x0 x1 x2 x3 x4 = some r → D 140 [Enc.enc x0, Enc.enc x1, Enc.enc x2, Enc.enc x3, Enc.enc x4] = some (Enc.enc (r : (List Int)))
  g140 : σ 140 = some (0, false)
abbrev R77 (r : (List Int)) : (Nat → V) → Prop := RR Try.prog [.tmp 2] 0 true (Enc.enc (r : (List Int)))
section
variable {D : Den} {σ : Sig} {F : Nat} {r : (List Int)}
def s_l7Best (F : Nat) (x_1 : (Int × (List (Int × Int)))) : Option (List Int) :=
  (s_l7Depths F x_1).bind fun r_2 =>
  (mkN x_1.1 (0 : Int)).bind fun mk_3 =>
  (s_l2All F x_1).bind fun r_4 =>
  (s_l7Grow F x_1 r_2 mk_3 r_4 (-1)).bind fun r_5 =>
  some r_5
theorem t77 (H : H77 D σ F) (x_1 : (Int × (List (Int × Int)))) (s : Nat → V) (hs : Facts [(0, (.agg [(ji x_1.1), (Enc.enc (x_1.2 : List (Int × Int)))]))] s) (h : s_l7Best F x_1 = some r) : Run D σ (R77 r) (.run A77 []) s := by
  unfold s_l7Best at h
  have h0 := hs
  refine .seq (run_reg ?_)
  refine e_clr ?_
  refine ez [(0, _), (1, _)] ⟨(keep_clear (pk := [1]) h0 rfl (map_agg (maps_cons mi (maps_cons me maps_nil)))), (gone_clear (pk := [1]) (t := 1) rfl)⟩ ?_
  rintro s ⟨h0, h1⟩
  refine g_box (.agg [(ji x_1.1), (Enc.enc (x_1.2 : List (Int × Int)))]) (rd_of h0 rfl) h1 rfl ?_
  refine g0 (.sl .nl (Enc.shp Int) 0 []) fun h2 => ?_
  refine gq (.nsq (.seq (run_reg ?_)))
  refine e_clr ?_
  refine ez [(1, _), (2, _), (8, _)] ⟨(keep_clear (pk := [8]) rfl rfl (map_bx rfl (map_agg (maps_cons mi (maps_cons me maps_nil))))), (keep_clear (pk := [8]) h2 rfl rfl), (gone_clear (pk := [8]) (t := 8) rfl)⟩ ?_
  rintro s ⟨h1, h2, h8⟩
  refine g1 1 (.agg [(ji x_1.1), (Enc.enc (x_1.2 : List (Int × Int)))]) h1 fun h3 => ?_
  refine g1 1 (.agg [(ji x_1.1), (Enc.enc (x_1.2 : List (Int × Int)))]) h1 fun h4 => ?_
  obtain ⟨r_2, E_r_2, h⟩ := bind_some h
  refine g_call (m := 0) (al := false) (r := (Enc.enc (r_2 : (List Int)))) [Enc.enc (x_1 : (Int × (List (Int × Int))))] (ta_cons (v := (.agg [(ji x_1.1), (Enc.enc (x_1.2 : List (Int × Int)))])) h4 rfl (Enc.erase_enc (x_1 : (Int × (List (Int × Int))))) ta_nil) (H.c107 _ _ E_r_2) H.g107 rfl rfl rfl rfl ?_
  refine g1 1 (.ref (.bx 1) 0 [0] (ji x_1.1)) h1 fun h6 => ?_
  refine g1 6 (ji x_1.1) h6 fun h7 => ?_
  obtain ⟨mk_3, E_mk_3, h⟩ := bind_some h
  refine g_mk (0 : Int) h7 rfl h8 E_mk_3 ?_
  refine g1 1 (.agg [(ji x_1.1), (Enc.enc (x_1.2 : List (Int × Int)))]) h1 fun h9 => ?_
  obtain ⟨r_4, E_r_4, h⟩ := bind_some h
  refine g_call (m := 0) (al := true) (r := (Enc.enc (r_4 : (List Int)))) [Enc.enc (x_1 : (Int × (List (Int × Int))))] (ta_cons (v := (.agg [(ji x_1.1), (Enc.enc (x_1.2 : List (Int × Int)))])) h9 rfl (Enc.erase_enc (x_1 : (Int × (List (Int × Int))))) ta_nil) (H.c86 _ _ E_r_4) H.g86 (hal_of (ht_cons (v := (.agg [(ji x_1.1), (Enc.enc (x_1.2 : List (Int × Int)))])) h9 rfl rfl ht_nil)) rfl rfl rfl ?_
  obtain ⟨r_5, E_r_5, h⟩ := bind_some h
  refine g_call (m := 0) (al := false) (r := (Enc.enc (r_5 : (List Int)))) [Enc.enc (x_1 : (Int × (List (Int × Int)))), Enc.enc (r_2 : (List Int)), Enc.enc (mk_3 : (List Int)), Enc.enc (r_4 : (List Int)), Enc.enc ((-1) : Int)] (ta_cons (v := (.agg [(ji x_1.1), (Enc.enc (x_1.2 : List (Int × Int)))])) h3 rfl (Enc.erase_enc (x_1 : (Int × (List (Int × Int))))) (ta_cons (v := (eL r_2)) rfl rfl (Enc.erase_enc (r_2 : (List Int))) (ta_cons (v := (oI 8 [] (.of mk_3))) rfl rfl (erase_encO (o := .of mk_3)) (ta_cons (v := (eL r_4)) rfl rfl (Enc.erase_enc (r_4 : (List Int))) (ta_cons (v := (ji (-1))) rfl rfl rfl ta_nil))))) (H.c140 _ _ _ _ _ _ E_r_5) H.g140 rfl rfl rfl rfl ?_
  refine gm (rfl : (_ : V) = (eL r_5)) fun h2 => ?_
  refine gq (.nsq (.ret ?_))
  have hr := Option.some.inj h
  subst hr
  exact rrA (res_tmp h2) (fin_ret1 (fin_enc (x := (r_5 : (List Int)))))
end
def e77 (F : Nat) : Ent := ent 77 (fun (x : ((Int × (List (Int × Int))) × Unit)) => s_l7Best F x.1) (fun (r : (List Int)) => (Enc.enc (r : (List Int)))) 0 true []
theorem p77 {F : Nat} {x0 : (Int × (List (Int × Int)))} {r : (List Int)} (h : s_l7Best F x0 = some r) : (e77 F).den [Enc.enc x0] = some (Enc.enc (r : (List Int))) := ent_put (x0, ()) h
theorem o77 {D : Den} {σ : Sig} {F : Nat} (hF : Fits2 Try.prog D σ) (H : H77 D σ F) : (e77 F).Ok Try.prog := by
  refine ok_of (f := 77) (show unk 77 = 77 from rfl) (fun args r h => ?_) ⟨Try.f77, Try.func77, rfl, rfl⟩
  obtain ⟨⟨x0, _⟩, y, rfl, hy, rfl⟩ := da_open h
  exact contract_run hF (by kernel_rfl) Try.func77 rfl c77 (show 1 ≤ Try.f77.ntmps by decide) (t77 H x0 _ rfl hy)
/- loop.example/g01109/spec.RankingOf -/
def A32_2 : AC := (.cond (.t 29) .skip (.exit 2))
def A32_6 : AC := (.cond (.t 35) .skip (.exit 4))
def A32_9 : AC := (.cond (.t 43) (.reg [] [(jm 44 5), (jm 45 9), (jm 46 5), (jm 47 9), ((jv 48 (.idx (.t 46) (.t 47) 1))), ((jv 49 (.load .s (.t 48)))), (jm 50 5), (jm 51 8), ((jv 52 (.idx (.t 50) (.t 51) 1))), ((jv 53 (.load .s (.t 52)))), ((jv 54 (.bin .add (.t 53) (jn 1)))), (.mk (some 55) none false (.call (.k (.fn 78 [] [])) [(.t 49), (.t 54)])), ((jv 56 (.idx (.t 44) (.t 45) 1))), (.mk none none false (.store .s (.t 56) (.t 55)))] []) .skip)
def A32_8 : AC := (.seq (.reg [] [(jm 42 9), ((jv 43 (.bin .geq (.t 42) (jn 0))))] []) A32_9)
def A32_10 : AC := (.reg [] [(jm 36 8), ((jv 37 (.bin .add (.t 36) (jn 1)))), (jm 8 37)] [])
def A32_7 : AC := (.seq (.block 5 (.seq (.reg [] [(jm 38 4), (jm 39 8), ((jv 40 (.idx (.t 38) (.t 39) 1))), ((jv 41 (.load .s (.t 40)))), (jm 9 41)] []) A32_8)) A32_10)
def A32_5 : AC := (.seq (.seq (.reg [] [(jm 32 8), ((jv 33 (.fld (.t 1) 0 0))), ((jv 34 (.load .s (.t 33)))), ((jv 35 (.bin .lss (.t 32) (.t 34))))] []) A32_6) A32_7)
def A32_4 : AC := (.block 4 (.loop A32_5))
def A32_11 : AC := (.reg [] [(jm 30 7), ((jv 31 (.bin .add (.t 30) (jn 1)))), (jm 7 31)] [])
def A32_3 : AC := (.seq (.block 3 (.seq (.reg [] [((jv 8 (.mov (jn 0))))] []) A32_4)) A32_11)
def A32_1 : AC := (.seq (.seq (.reg [] [(jm 26 7), ((jv 27 (.fld (.t 1) 0 0))), ((jv 28 (.load .s (.t 27)))), ((jv 29 (.bin .lss (.t 26) (.t 28))))] []) A32_2) A32_3)
def A32_12 : AC := (.seq (.reg [] [(jm 57 5), (jm 2 57), ((jv 3 (.mov (.k (.bool true)))))] [.home 5 2]) .ret)
def A32_14 : AC := (.cond (.t 20) .skip (.exit 0))
def A32_16 : AC := (.reg [] [(jm 21 6), ((jv 22 (.bin .add (.t 21) (jn 1)))), (jm 6 22)] [])
def A32_15 : AC := (.seq (.block 1 (.reg [.clr [24, 25]] [(jm 23 5), (.mk (some 24) none false (.lit (.int .i64 (.ofNat 0)) 1 [(0, 0, (jn 1))])), (.mk (some 25) none false (.app .s (.t 23) (.t 24))), (jm 5 25)] [.home 25 5])) A32_16)
def A32_13 : AC := (.seq (.seq (.reg [] [(jm 17 6), ((jv 18 (.fld (.t 1) 0 0))), ((jv 19 (.load .s (.t 18)))), ((jv 20 (.bin .lss (.t 17) (.t 19))))] []) A32_14) A32_15)
def A32_18 : AC := (.block 2 (.loop A32_1))
def A32_17 : AC := (.seq (.seq (.reg [] [((jv 7 (.mov (jn 0))))] []) A32_18) A32_12)
def A32_20 : AC := (.cond (.t 12) (.seq (.reg [.clr [13]] [(.mk (some 13) none false (.lit (.int .i64 (.ofNat 0)) 0 [])), (jm 2 13), ((jv 3 (.mov (.k (.bool false)))))] [.home 13 2]) .ret) .skip)
def A32_24 : AC := (.block 0 (.loop A32_13))
def A32_23 : AC := (.seq (.seq (.reg [] [((jv 6 (.mov (jn 0))))] []) A32_24) A32_17)
def A32_22 : AC := (.seq (.reg [.clr [16]] [(.mk (some 16) none false (.lit (.int .i64 (.ofNat 0)) 0 [])), (jm 5 16)] [.home 16 5]) A32_23)
def A32_21 : AC := (.seq (.reg [] [((jv 14 (.load (.ag [.s, .p]) (.t 1)))), (.mk (some 15) none false (.call (.k (.fn 77 [] [])) [(.t 14)])), (jm 4 15)] []) A32_22)
def A32_19 : AC := (.seq (.seq (.reg [] [((jv 10 (.load (.ag [.s, .p]) (.t 1)))), (.mk (some 11) none false (.call (.k (.fn 72 [] [])) [(.t 10)])), ((jv 12 (.un .not (.t 11))))] []) A32_20) A32_21)
def A32 : AC := (.seq (.reg [.clr [1]] [(.mk (some 1) none false (.box (.t 0))), ((jv 2 (.mov (.k (.sl .nl .s 0 []))))), ((jv 3 (.mov (.k (.bool false)))))] []) A32_19)
def an32 : List An := [{ id := 0, pre := [.clr [1]], ep := [], lin := [], sp := [] }, { id := 2, pre := [.clr [13]], ep := [.home 13 2], lin := [], sp := [] }, { id := 4, pre := [.clr [16]], ep := [.home 16 5], lin := [], sp := [] }, { id := 8, pre := [.clr [24, 25]], ep := [.home 25 5], lin := [], sp := [] }, { id := 18, pre := [], ep := [.home 5 2], lin := [], sp := [] }]
theorem c32 : cC Try.prog Try.f32.ntmps an32 (Try.f32.body.getD .skip) = some A32 := by kernel_rfl
structure H32 (D : Den) (σ : Sig) (F : Nat) : Prop where
  c72 : ∀ (x0 : (Int × (List (Int × Int)))) r, s_l2Good F x0 = some r → D 72 [Enc.enc x0] = some (Enc.enc (r : Bool))
  g72 : σ 72 = some (0, false)
  c77 : ∀ (x0 : (Int × (List (Int × Int)))) r, s_l7Best F x0 = some r → D 77 [Enc.enc x0] = some (Enc.enc (r : (List Int)))
  g77 : σ 77 = some (0, true)
  c78 : ∀ (x0 : Int) (x1 : Int) r, s_l1Most F x0 x1 = some r → D 78 [Enc.enc x0, Enc.enc x1] = some (Enc.enc (r : Int))
  g78 : σ 78 = some (0, false)
abbrev R32 (r : ((List Int) × Bool)) : (Nat → V) → Prop := RR Try.prog [.tmp 2, .tmp 3] 0 false (.tup [Enc.enc (r.1 : (List Int)), Enc.enc (r.2 : Bool)])
section
variable {D : Den} {σ : Sig} {F : Nat} {r : ((List Int) × Bool)}
def s_RankingOf_j1 (F : Nat) (x_1 : (Int × (List (Int × Int)))) (r_3 : (List Int)) (x_42 : Int) (x_86 : Int) (c2 : (List Int) → Int → Option ((List Int) × Bool)) (c5 : (List Int) → Int → Option ((List Int) × Bool)) (x_102 : (List Int)) : Option ((List Int) × Bool) :=
  c5 x_102 (w64 (x_86 + 1))
theorem t_f32_j1 (H : H32 D σ F) (x_1 : (Int × (List (Int × Int)))) (r_3 : (List Int)) (x_42 : Int) (x_86 : Int) (c2 : (List Int) → Int → Option ((List Int) × Bool)) (Hc2 : ∀ (x_41 : (List Int)) (x_42 : Int) (s : Nat → V), Facts [(1, (.ref (.bx 1) 0 [] (.agg [(ji x_1.1), (Enc.enc (x_1.2 : List (Int × Int)))]))), (2, (.sl .nl (Enc.shp Int) 0 [])), (3, (jb false)), (4, (eL r_3)), (5, (oI 5 [] (.of x_41))), (7, (ji x_42))] s → c2 x_41 x_42 = some r → Run D σ (R32 r) (.run A32_1 [.lp A32_1, .bk 2, .sq A32_12]) s) (c5 : (List Int) → Int → Option ((List Int) × Bool)) (Hc5 : ∀ (x_85 : (List Int)) (x_86 : Int) (s : Nat → V), Facts [(1, (.ref (.bx 1) 0 [] (.agg [(ji x_1.1), (Enc.enc (x_1.2 : List (Int × Int)))]))), (2, (.sl .nl (Enc.shp Int) 0 [])), (3, (jb false)), (4, (eL r_3)), (5, (oI 5 [] (.of x_85))), (7, (ji x_42)), (8, (ji x_86))] s → c5 x_85 x_86 = some r → Run D σ (R32 r) (.run A32_5 [.lp A32_5, .bk 4, .bk 3, .sq A32_11, .lp A32_1, .bk 2, .sq A32_12]) s) (x_102 : (List Int)) (s : Nat → V) (hs : Facts [(1, (.ref (.bx 1) 0 [] (.agg [(ji x_1.1), (Enc.enc (x_1.2 : List (Int × Int)))]))), (2, (.sl .nl (Enc.shp Int) 0 [])), (3, (jb false)), (4, (eL r_3)), (5, (oI 5 [] (.of x_102))), (7, (ji x_42)), (8, (ji x_86))] s) (h : s_RankingOf_j1 F x_1 r_3 x_42 x_86 c2 c5 x_102 = some r) : Run D σ (R32 r) (.nrm [.bk 5, .sq A32_10, .lp A32_5, .bk 4, .bk 3, .sq A32_11, .lp A32_1, .bk 2, .sq A32_12]) s := by
  unfold s_RankingOf_j1 at h
  obtain ⟨h1, h2, h3, h4, h5, h7, h8⟩ := hs
  refine .nbk (.nsq (rg (gm h8 fun h36 => g1 36 (ji (w64 (x_86 + 1))) h36 fun h37 => ?_)))
  refine gm h37 fun h8 => gq (.nlp ?_)
  exact Hc5 x_102 (w64 (x_86 + 1)) _ ⟨h1, h2, h3, h4, h5, h7, h8⟩ h
def s_RankingOf_l1 (F : Nat) (x_1 : (Int × (List (Int × Int)))) (r_3 : (List Int)) (x_42 : Int) (c2 : (List Int) → Int → Option ((List Int) × Bool)) : Nat → (List Int) → Int → Option ((List Int) × Bool)
  | 0, _, _ => none
  | k + 1, x_85, x_86 =>
    bif decide (x_86 < x_1.1) then
      (idx r_3 x_86).bind fun e_97 =>
      bif decide (e_97 ≥ 0) then
        (idx x_85 e_97).bind fun e_103 =>
        (idx x_85 x_86).bind fun e_104 =>
        (s_l1Most F e_103 (w64 (e_104 + 1))).bind fun r_105 =>
        (idx x_85 e_97).bind fun e_106 =>
        s_RankingOf_j1 F x_1 r_3 x_42 x_86 c2 (s_RankingOf_l1 F x_1 r_3 x_42 c2 k) (x_85.set e_97.toNat r_105)
      else
        s_RankingOf_j1 F x_1 r_3 x_42 x_86 c2 (s_RankingOf_l1 F x_1 r_3 x_42 c2 k) x_85
    else
      c2 x_85 (w64 (x_42 + 1))
theorem t_f32_l1 (H : H32 D σ F) (x_1 : (Int × (List (Int × Int)))) (r_3 : (List Int)) (x_42 : Int) (c2 : (List Int) → Int → Option ((List Int) × Bool)) (Hc2 : ∀ (x_41 : (List Int)) (x_42 : Int) (s : Nat → V), Facts [(1, (.ref (.bx 1) 0 [] (.agg [(ji x_1.1), (Enc.enc (x_1.2 : List (Int × Int)))]))), (2, (.sl .nl (Enc.shp Int) 0 [])), (3, (jb false)), (4, (eL r_3)), (5, (oI 5 [] (.of x_41))), (7, (ji x_42))] s → c2 x_41 x_42 = some r → Run D σ (R32 r) (.run A32_1 [.lp A32_1, .bk 2, .sq A32_12]) s) : ∀ (k : Nat) (x_85 : (List Int)) (x_86 : Int) (s : Nat → V), Facts [(1, (.ref (.bx 1) 0 [] (.agg [(ji x_1.1), (Enc.enc (x_1.2 : List (Int × Int)))]))), (2, (.sl .nl (Enc.shp Int) 0 [])), (3, (jb false)), (4, (eL r_3)), (5, (oI 5 [] (.of x_85))), (7, (ji x_42)), (8, (ji x_86))] s → s_RankingOf_l1 F x_1 r_3 x_42 c2 k x_85 x_86 = some r → Run D σ (R32 r) (.run A32_5 [.lp A32_5, .bk 4, .bk 3, .sq A32_11, .lp A32_1, .bk 2, .sq A32_12]) s := by
  intro k
  induction k with
  | zero => intro x_85 x_86 s _ h; exact nomatch (h : (none : Option _) = some r)
  | succ k ih =>
    intro x_85 x_86 s hs h
    rw [s_RankingOf_l1] at h
    obtain ⟨h1, h2, h3, h4, h5, h7, h8⟩ := hs
    refine .seq (.seq (rg (gm h8 fun h32 => g1 1 (.ref (.bx 1) 0 [0] (ji x_1.1)) h1 fun h33 => ?_)))
    refine g1 33 (ji x_1.1) h33 fun h34 => ?_
    refine g2 32 34 (jb (decide (x_86 < x_1.1))) h32 h34 fun h35 => ?_
    refine gq (.nsq (run_cond (t := decide (x_86 < x_1.1)) h35 h (fun h => ?_) (fun h => ?_)))
    · refine .skip (.nsq (.seq (.block (.seq (rg (gm h4 fun h38 => gm h8 fun h39 => ?_))))))
      obtain ⟨e_97, E_e_97, h⟩ := bind_some h
      refine gv (.ref .sh 0 [] (ji e_97)) (ev_idx (t := .sh) (lo := 0) (xs := r_3) h38 h39 E_e_97 rfl rfl) fun h40 => ?_
      refine g1 40 (ji e_97) h40 fun h41 => ?_
      refine gm h41 fun h9 => gq (.nsq (.seq (rg (gm h9 fun h42 => g1 42 (jb (decide (e_97 ≥ 0))) h42 fun h43 => ?_))))
      refine gq (.nsq (run_cond (t := decide (e_97 ≥ 0)) h43 h (fun h => ?_) (fun h => ?_)))
      · refine rg (gm h5 fun h44 => gm h9 fun h45 => gm h5 fun h46 => gm h9 fun h47 => ?_)
        obtain ⟨e_103, E_e_103, h⟩ := bind_some h
        refine gv (.ref (.at 5 []) e_97.toNat [] (ji e_103)) (ev_idxO (o := (.of x_85)) h46 h47 E_e_103 rfl) fun h48 => ?_
        refine g1 48 (ji e_103) h48 fun h49 => ?_
        refine gm h5 fun h50 => gm h8 fun h51 => ?_
        obtain ⟨e_104, E_e_104, h⟩ := bind_some h
        refine gv (.ref (.at 5 []) x_86.toNat [] (ji e_104)) (ev_idxO (o := (.of x_85)) h50 h51 E_e_104 rfl) fun h52 => ?_
        refine g1 52 (ji e_104) h52 fun h53 => ?_
        refine g1 53 (ji (w64 (e_104 + 1))) h53 fun h54 => ?_
        obtain ⟨r_105, E_r_105, h⟩ := bind_some h
        refine g_call (m := 0) (al := false) (r := (Enc.enc (r_105 : Int))) [Enc.enc (e_103 : Int), Enc.enc (w64 (e_104 + 1) : Int)] (ta_cons (v := (ji e_103)) h49 rfl rfl (ta_cons (v := (ji (w64 (e_104 + 1)))) h54 rfl rfl ta_nil)) (H.c78 _ _ _ E_r_105) H.g78 rfl rfl rfl rfl ?_
        obtain ⟨e_106, E_e_106, h⟩ := bind_some h
        refine gv (.ref (.at 5 []) e_97.toNat [] (ji e_106)) (ev_idxO (o := (.of x_85)) h44 h45 E_e_106 rfl) fun h56 => ?_
        refine g_store (ji r_105) (rd_of h56 rfl) (rd_of rfl rfl) (by refine ⟨by decide, by decide, rfl, rfl, rfl, ?_⟩; first | rfl | (simp [V.toks, V.tokss, Enc.toks_enc]; done) | simp [V.toks, V.tokss, Enc.toks_enc, tok_memP]) ?_
        refine gz [(1, (.ref (.bx 1) 0 [] (.agg [(ji x_1.1), (Enc.enc (x_1.2 : List (Int × Int)))]))), (2, (.sl .nl (Enc.shp Int) 0 [])), (3, (jb false)), (4, (eL r_3)), (5, _), (7, (ji x_42)), (8, (ji x_86))] ⟨(keep_mut h1 (mut_ref_ne rfl rfl (mut_agg (muts_cons rfl (muts_cons (Enc.mut_enc _ _ _ _ (x_1.2 : List (Int × Int))) rfl))))), (keep_mut h2 rfl), (keep_mut h3 rfl), (keep_mut h4 (Enc.mut_enc _ _ _ _ (r_3 : List Int))), (keep_mut h5 mut_own), (keep_mut h7 rfl), (keep_mut h8 rfl)⟩ ?_
        rintro s ⟨h1, h2, h3, h4, h5, h7, h8⟩
        exact t_f32_j1 H x_1 r_3 x_42 x_86 c2 Hc2 (s_RankingOf_l1 F x_1 r_3 x_42 c2 k) ih (x_85.set e_97.toNat r_105) _ ⟨h1, h2, h3, h4, h5, h7, h8⟩ h
      refine .skip ?_
      exact t_f32_j1 H x_1 r_3 x_42 x_86 c2 Hc2 (s_RankingOf_l1 F x_1 r_3 x_42 c2 k) ih x_85 _ ⟨h1, h2, h3, h4, h5, h7, h8⟩ h
    refine .exit (.esq (.elp (.ebk (.nbk (.nsq (rg (gm h7 fun h30 => g1 30 (ji (w64 (x_42 + 1))) h30 fun h31 => ?_)))))))
    refine gm h31 fun h7 => gq (.nlp ?_)
    exact Hc2 x_85 (w64 (x_42 + 1)) _ ⟨h1, h2, h3, h4, h5, h7⟩ h
def s_RankingOf_l2 (F : Nat) (x_1 : (Int × (List (Int × Int)))) (r_3 : (List Int))  : Nat → (List Int) → Int → Option ((List Int) × Bool)
  | 0, _, _ => none
  | k + 1, x_41, x_42 =>
    bif decide (x_42 < x_1.1) then
      s_RankingOf_l1 F x_1 r_3 x_42 (s_RankingOf_l2 F x_1 r_3 k) F x_41 0
    else
      some (x_41, true)
theorem t_f32_l2 (H : H32 D σ F) (x_1 : (Int × (List (Int × Int)))) (r_3 : (List Int))  : ∀ (k : Nat) (x_41 : (List Int)) (x_42 : Int) (s : Nat → V), Facts [(1, (.ref (.bx 1) 0 [] (.agg [(ji x_1.1), (Enc.enc (x_1.2 : List (Int × Int)))]))), (2, (.sl .nl (Enc.shp Int) 0 [])), (3, (jb false)), (4, (eL r_3)), (5, (oI 5 [] (.of x_41))), (7, (ji x_42))] s → s_RankingOf_l2 F x_1 r_3 k x_41 x_42 = some r → Run D σ (R32 r) (.run A32_1 [.lp A32_1, .bk 2, .sq A32_12]) s := by
  intro k
  induction k with
  | zero => intro x_41 x_42 s _ h; exact nomatch (h : (none : Option _) = some r)
  | succ k ih =>
    intro x_41 x_42 s hs h
    rw [s_RankingOf_l2] at h
    obtain ⟨h1, h2, h3, h4, h5, h7⟩ := hs
    refine .seq (.seq (rg (gm h7 fun h26 => g1 1 (.ref (.bx 1) 0 [0] (ji x_1.1)) h1 fun h27 => ?_)))
    refine g1 27 (ji x_1.1) h27 fun h28 => ?_
    refine g2 26 28 (jb (decide (x_42 < x_1.1))) h26 h28 fun h29 => ?_
    refine gq (.nsq (run_cond (t := decide (x_42 < x_1.1)) h29 h (fun h => ?_) (fun h => ?_)))
    · refine .skip (.nsq (.seq (.block (.seq (rg (g0 (ji 0) fun h8 => gq (.nsq (.block (.loop ?_)))))))))
      exact t_f32_l1 H x_1 r_3 x_42 (s_RankingOf_l2 F x_1 r_3 k) ih F x_41 0 _ ⟨h1, h2, h3, h4, h5, h7, h8⟩ h
    refine .exit (.esq (.elp (.ebk (.nsq (.seq (rg (gm h5 fun h57 => gm h57 fun h2 => g0 (jb true) fun h3 => ?_)))))))
    refine g_end ?_
    refine e_home (r := 5) (x := 2) (v := _) h2 rfl (fun s_17 hg_17 => ?_)
    refine ez [(2, (oI 2 [] (.of x_41))), (3, (jb true))] ⟨(hg_17 2 _ _ h2 (map_encO (r := 5) (p := []) rfl rfl)), (hg_17 3 _ _ h3 mb)⟩ ?_
    rintro s ⟨h2, h3⟩
    refine .nsq (.ret ?_)
    have hr := Option.some.inj h
    subst hr
    exact rrB (res_tmp h2) (res_tmp h3) (fin_retF (fin_tup (fins_cons (fin_own (o := .of x_41)) (fins_cons (fin_enc (x := (true : Bool))) fins_nil))) (mine_tup (mines_cons (mine_own rfl) (mines_cons rfl mines_nil))))
def s_RankingOf_l3 (F : Nat) (x_1 : (Int × (List (Int × Int)))) (r_3 : (List Int))  : Nat → (List Int) → Int → Option ((List Int) × Bool)
  | 0, _, _ => none
  | k + 1, x_5, x_6 =>
    bif decide (x_6 < x_1.1) then
      (appL x_5 [1]).bind fun ap_8 =>
      (s_RankingOf_l3 F x_1 r_3 k) ap_8 (w64 (x_6 + 1))
    else
      s_RankingOf_l2 F x_1 r_3 F x_5 0
theorem t_f32_l3 (H : H32 D σ F) (x_1 : (Int × (List (Int × Int)))) (r_3 : (List Int))  : ∀ (k : Nat) (x_5 : (List Int)) (x_6 : Int) (s : Nat → V), Facts [(1, (.ref (.bx 1) 0 [] (.agg [(ji x_1.1), (Enc.enc (x_1.2 : List (Int × Int)))]))), (2, (.sl .nl (Enc.shp Int) 0 [])), (3, (jb false)), (4, (eL r_3)), (5, (oI 5 [] (.of x_5))), (6, (ji x_6))] s → s_RankingOf_l3 F x_1 r_3 k x_5 x_6 = some r → Run D σ (R32 r) (.run A32_13 [.lp A32_13, .bk 0, .sq A32_17]) s := by
  intro k
  induction k with
  | zero => intro x_5 x_6 s _ h; exact nomatch (h : (none : Option _) = some r)
  | succ k ih =>
    intro x_5 x_6 s hs h
    rw [s_RankingOf_l3] at h
    obtain ⟨h1, h2, h3, h4, h5, h6⟩ := hs
    refine .seq (.seq (rg (gm h6 fun h17 => g1 1 (.ref (.bx 1) 0 [0] (ji x_1.1)) h1 fun h18 => ?_)))
    refine g1 18 (ji x_1.1) h18 fun h19 => ?_
    refine g2 17 19 (jb (decide (x_6 < x_1.1))) h17 h19 fun h20 => ?_
    refine gq (.nsq (run_cond (t := decide (x_6 < x_1.1)) h20 h (fun h => ?_) (fun h => ?_)))
    · refine .skip (.nsq (.seq (.block (run_reg ?_))))
      refine e_clr ?_
      refine ez [(1, _), (2, _), (3, _), (4, _), (5, _), (6, _), (24, _), (25, _)] ⟨(keep_clear (pk := [24, 25]) h1 rfl (map_bx rfl (map_agg (maps_cons mi (maps_cons me maps_nil))))), (keep_clear (pk := [24, 25]) h2 rfl rfl), (keep_clear (pk := [24, 25]) h3 rfl mb), (keep_clear (pk := [24, 25]) h4 rfl me), (keep_clear (pk := [24, 25]) h5 rfl (map_encO (r := 5) (p := []) rfl rfl)), (keep_clear (pk := [24, 25]) h6 rfl mi), (gone_clear (pk := [24, 25]) (t := 24) rfl), (gone_clear (pk := [24, 25]) (t := 25) rfl)⟩ ?_
      rintro s ⟨h1, h2, h3, h4, h5, h6, h24, h25⟩
      refine gm h5 fun h23 => g_litL [] [Enc.enc (1 : Int)] trivial rfl rfl h24 ?_
      obtain ⟨ap_8, E_ap_8, h⟩ := bind_some h
      refine g_app (q := 5) (p := []) (o := (.of (x_5 : List Int))) (ys := ([1] : List Int)) (t2 := (.at 24 [])) (lo2 := 0) h23 rfl rfl h25 (appN_L (o := (.of (x_5 : List Int))) E_ap_8 trivial) (fun s_15 ha_15 => ?_)
      refine gm (rfl : (_ : V) = (oI 25 [] (.of ap_8))) fun h5 => ?_
      refine g_end ?_
      refine e_home (r := 25) (x := 5) (v := _) h5 rfl (fun s_16 hg_16 => ?_)
      refine ez [(1, (.ref (.bx 1) 0 [] (.agg [(ji x_1.1), (Enc.enc (x_1.2 : List (Int × Int)))]))), (2, (.sl .nl (Enc.shp Int) 0 [])), (3, (jb false)), (4, (eL r_3)), (5, (oI 5 [] (.of ap_8))), (6, (ji x_6))] ⟨(hg_16 1 _ _ (show s_15 1 = (.ref (.bx 1) 0 [] (.agg [(ji x_1.1), (Enc.enc (x_1.2 : List (Int × Int)))])) from keep_app ha_15 h1 (map_bx rfl (map_agg (maps_cons mi (maps_cons me maps_nil))))) (map_bx rfl (map_agg (maps_cons mi (maps_cons me maps_nil))))), (hg_16 2 _ (.sl .nl (Enc.shp Int) 0 []) (show s_15 2 = (.sl .nl (Enc.shp Int) 0 []) from keep_app ha_15 h2 rfl) rfl), (hg_16 3 _ _ (show s_15 3 = (jb false) from keep_app ha_15 h3 mb) mb), (hg_16 4 _ _ (show s_15 4 = (eL r_3) from keep_app ha_15 h4 me) me), (hg_16 5 _ _ h5 (map_encO (r := 25) (p := []) rfl rfl)), (hg_16 6 _ _ (show s_15 6 = (ji x_6) from keep_app ha_15 h6 mi) mi)⟩ ?_
      rintro s ⟨h1, h2, h3, h4, h5, h6⟩
      refine .nbk (.nsq (rg (gm h6 fun h21 => g1 21 (ji (w64 (x_6 + 1))) h21 fun h22 => ?_)))
      refine gm h22 fun h6 => gq (.nlp ?_)
      exact ih ap_8 (w64 (x_6 + 1)) _ ⟨h1, h2, h3, h4, h5, h6⟩ h
    refine .exit (.esq (.elp (.ebk (.nsq (.seq (.seq (rg (g0 (ji 0) fun h7 => gq (.nsq (.block (.loop ?_)))))))))))
    exact t_f32_l2 H x_1 r_3 F x_5 0 _ ⟨h1, h2, h3, h4, h5, h7⟩ h
def s_RankingOf (F : Nat) (x_1 : (Int × (List (Int × Int)))) : Option ((List Int) × Bool) :=
  (s_l2Good F x_1).bind fun r_2 =>
  bif (!r_2) then
    some ([], false)
  else
    (s_l7Best F x_1).bind fun r_3 =>
    s_RankingOf_l3 F x_1 r_3 F [] 0
theorem t32 (H : H32 D σ F) (x_1 : (Int × (List (Int × Int)))) (s : Nat → V) (hs : Facts [(0, (.agg [(ji x_1.1), (Enc.enc (x_1.2 : List (Int × Int)))]))] s) (h : s_RankingOf F x_1 = some r) : Run D σ (R32 r) (.run A32 []) s := by
  unfold s_RankingOf at h
  have h0 := hs
  refine .seq (run_reg ?_)
  refine e_clr ?_
  refine ez [(0, _), (1, _)] ⟨(keep_clear (pk := [1]) h0 rfl (map_agg (maps_cons mi (maps_cons me maps_nil)))), (gone_clear (pk := [1]) (t := 1) rfl)⟩ ?_
  rintro s ⟨h0, h1⟩
  refine g_box (.agg [(ji x_1.1), (Enc.enc (x_1.2 : List (Int × Int)))]) (rd_of h0 rfl) h1 rfl ?_
  refine g0 (.sl .nl (Enc.shp Int) 0 []) fun h2 => ?_
  refine g0 (jb false) fun h3 => ?_
  refine gq (.nsq (.seq (.seq (rg (g1 1 (.agg [(ji x_1.1), (Enc.enc (x_1.2 : List (Int × Int)))]) (rfl : (_ : V) = (.ref (.bx 1) 0 [] (.agg [(ji x_1.1), (Enc.enc (x_1.2 : List (Int × Int)))]))) fun h10 => ?_)))))
  obtain ⟨r_2, E_r_2, h⟩ := bind_some h
  refine g_call (m := 0) (al := false) (r := (Enc.enc (r_2 : Bool))) [Enc.enc (x_1 : (Int × (List (Int × Int))))] (ta_cons (v := (.agg [(ji x_1.1), (Enc.enc (x_1.2 : List (Int × Int)))])) h10 rfl (Enc.erase_enc (x_1 : (Int × (List (Int × Int))))) ta_nil) (H.c72 _ _ E_r_2) H.g72 rfl rfl rfl rfl ?_
  refine g1 11 (jb (!r_2)) (rfl : (_ : V) = (jb r_2)) fun h12 => ?_
  refine gq (.nsq (run_cond (t := (!r_2)) h12 h (fun h => ?_) (fun h => ?_)))
  · refine .seq (run_reg ?_)
    refine e_clr ?_
    refine ez [(1, _), (2, _), (3, _), (13, _)] ⟨(keep_clear (pk := [13]) rfl rfl (map_bx rfl (map_agg (maps_cons mi (maps_cons me maps_nil))))), (keep_clear (pk := [13]) h2 rfl rfl), (keep_clear (pk := [13]) h3 rfl mb), (gone_clear (pk := [13]) (t := 13) rfl)⟩ ?_
    rintro s ⟨h1, h2, h3, h13⟩
    refine g_litL [] [] trivial rfl rfl h13 ?_
    refine gm (rfl : (_ : V) = (oI 13 [] (.of []))) fun h2 => ?_
    refine g0 (jb false) fun h3 => ?_
    refine g_end ?_
    refine e_home (r := 13) (x := 2) (v := _) h2 rfl (fun s_5 hg_5 => ?_)
    refine ez [(1, (.ref (.bx 1) 0 [] (.agg [(ji x_1.1), (Enc.enc (x_1.2 : List (Int × Int)))]))), (2, (oI 2 [] (.of []))), (3, (jb false))] ⟨(hg_5 1 _ _ h1 (map_bx rfl (map_agg (maps_cons mi (maps_cons me maps_nil))))), (hg_5 2 _ _ h2 (map_encO (r := 13) (p := []) rfl rfl)), (hg_5 3 _ _ h3 mb)⟩ ?_
    rintro s ⟨h1, h2, h3⟩
    refine .nsq (.ret ?_)
    have hr := Option.some.inj h
    subst hr
    exact rrB (res_tmp h2) (res_tmp h3) (fin_retF (fin_tup (fins_cons (fin_own (o := .of [])) (fins_cons (fin_enc (x := (false : Bool))) fins_nil))) (mine_tup (mines_cons (mine_own rfl) (mines_cons rfl mines_nil))))
  refine .skip (.nsq (.seq (rg (g1 1 (.agg [(ji x_1.1), (Enc.enc (x_1.2 : List (Int × Int)))]) (rfl : (_ : V) = (.ref (.bx 1) 0 [] (.agg [(ji x_1.1), (Enc.enc (x_1.2 : List (Int × Int)))]))) fun h14 => ?_))))
  obtain ⟨r_3, E_r_3, h⟩ := bind_some h
  refine g_call (m := 0) (al := true) (r := (Enc.enc (r_3 : (List Int)))) [Enc.enc (x_1 : (Int × (List (Int × Int))))] (ta_cons (v := (.agg [(ji x_1.1), (Enc.enc (x_1.2 : List (Int × Int)))])) h14 rfl (Enc.erase_enc (x_1 : (Int × (List (Int × Int))))) ta_nil) (H.c77 _ _ E_r_3) H.g77 (hal_of (ht_cons (v := (.agg [(ji x_1.1), (Enc.enc (x_1.2 : List (Int × Int)))])) h14 rfl rfl ht_nil)) rfl rfl rfl ?_
  refine gm (rfl : (_ : V) = (eL r_3)) fun h4 => ?_
  refine gq (.nsq (.seq (run_reg ?_)))
  refine e_clr ?_
  refine ez [(1, _), (2, _), (3, _), (4, _), (16, _)] ⟨(keep_clear (pk := [16]) rfl rfl (map_bx rfl (map_agg (maps_cons mi (maps_cons me maps_nil))))), (keep_clear (pk := [16]) h2 rfl rfl), (keep_clear (pk := [16]) h3 rfl mb), (keep_clear (pk := [16]) h4 rfl me), (gone_clear (pk := [16]) (t := 16) rfl)⟩ ?_
  rintro s ⟨h1, h2, h3, h4, h16⟩
  refine g_litL [] [] trivial rfl rfl h16 ?_
  refine gm (rfl : (_ : V) = (oI 16 [] (.of []))) fun h5 => ?_
  refine g_end ?_
  refine e_home (r := 16) (x := 5) (v := _) h5 rfl (fun s_7 hg_7 => ?_)
  refine ez [(1, (.ref (.bx 1) 0 [] (.agg [(ji x_1.1), (Enc.enc (x_1.2 : List (Int × Int)))]))), (2, (.sl .nl (Enc.shp Int) 0 [])), (3, (jb false)), (4, (eL r_3)), (5, (oI 5 [] (.of [])))] ⟨(hg_7 1 _ _ h1 (map_bx rfl (map_agg (maps_cons mi (maps_cons me maps_nil))))), (hg_7 2 _ (.sl .nl (Enc.shp Int) 0 []) h2 rfl), (hg_7 3 _ _ h3 mb), (hg_7 4 _ _ h4 me), (hg_7 5 _ _ h5 (map_encO (r := 16) (p := []) rfl rfl))⟩ ?_
  rintro s ⟨h1, h2, h3, h4, h5⟩
  refine .nsq (.seq (.seq (rg (g0 (ji 0) fun h6 => gq (.nsq (.block (.loop ?_)))))))
  exact t_f32_l3 H x_1 r_3 F [] 0 _ ⟨h1, h2, h3, h4, h5, h6⟩ h
end
def e32 (F : Nat) : Ent := ent 32 (fun (x : ((Int × (List (Int × Int))) × Unit)) => s_RankingOf F x.1) (fun (r : ((List Int) × Bool)) => (.tup [Enc.enc (r.1 : (List Int)), Enc.enc (r.2 : Bool)])) 0 false []
theorem p32 {F : Nat} {x0 : (Int × (List (Int × Int)))} {r : ((List Int) × Bool)} (h : s_RankingOf F x0 = some r) : (e32 F).den [Enc.enc x0] = some (.tup [Enc.enc (r.1 : (List Int)), Enc.enc (r.2 : Bool)]) := ent_put (x0, ()) h
theorem o32 {D : Den} {σ : Sig} {F : Nat} (hF : Fits2 Try.prog D σ) (H : H32 D σ F) : (e32 F).Ok Try.prog := by
  refine ok_of (f := 32) (show unk 32 = 32 from rfl) (fun args r h => ?_) ⟨Try.f32, Try.func32, rfl, rfl⟩
  obtain ⟨⟨x0, _⟩, y, rfl, hy, rfl⟩ := da_open h
  exact contract_run hF (by kernel_rfl) Try.func32 rfl c32 (show 1 ≤ Try.f32.ntmps by decide) (t32 H x0 _ rfl hy)
/- loop.example/g01109/impl.within -/
def A105_1 : AC := (.seq (.reg [] [(jm 7 0), (jm 8 1), ((jv 9 (.bin .geq (.t 7) (.t 8)))), (jm 10 9), ((jg 11 10 true (.mov (.t 0)))), ((jg 12 10 true (.mov (.t 2)))), ((jg 13 10 true (.bin .leq (.t 11) (.t 12)))), ((jv 14 (.pick (.t 10) (.t 13) (.k (.bool false))))), (jm 6 14)] []) .ret)
def A105 : AC := (.seq (.reg [] [((jv 6 (.mov (.k (.bool false)))))] []) A105_1)
def an105 : List An := []
theorem c105 : cC Try.prog Try.f105.ntmps an105 (Try.f105.body.getD .skip) = some A105 := by kernel_rfl
structure H105 (D : Den) (σ : Sig) (F : Nat) : Prop where
  mk ::
abbrev R105 (r : Bool) : (Nat → V) → Prop := RR Try.prog [.tmp 6] 0 false (Enc.enc (r : Bool))
section
variable {D : Den} {σ : Sig} {F : Nat} {r : Bool}
def i_within (F : Nat) (x_1 : Int) (x_2 : Int) (x_3 : Int) : Option Bool :=
  bif decide (x_1 ≥ x_2) then
    some (decide (x_1 ≤ x_3))
  else
    some false
theorem t105 (H : H105 D σ F) (x_1 : Int) (x_2 : Int) (x_3 : Int) (s : Nat → V) (hs : Facts [(0, (ji x_1)), (1, (ji x_2)), (2, (ji x_3))] s) (h : i_within F x_1 x_2 x_3 = some r) : Run D σ (R105 r) (.run A105 []) s := by
  unfold i_within at h
  obtain ⟨h0, h1, h2⟩ := hs
  refine .seq (rg (g0 (jb false) fun h6 => ?_))
  refine gq (.nsq (.seq (rg (gm h0 fun h7 => gm h1 fun h8 => g2 7 8 (jb (decide (x_1 ≥ x_2))) h7 h8 fun h9 => ?_))))
  refine gm h9 fun h10 => split_on (c := decide (x_1 ≥ x_2)) h (fun hg4 h => ?_) (fun hg4 h => ?_)
  · refine g_yes (h10.trans (congrArg V.bool hg4)) (gm h0 fun h11 => ?_)
    refine g_yes (h10.trans (congrArg V.bool hg4)) (gm h2 fun h12 => ?_)
    refine g_yes (h10.trans (congrArg V.bool hg4)) (g2 11 12 (jb (decide (x_1 ≤ x_3))) h11 h12 fun h13 => ?_)
    refine g2 10 13 (jb (decide (x_1 ≤ x_3))) (h10.trans (congrArg V.bool hg4)) h13 fun h14 => ?_
    refine gm h14 fun h6 => gq (.nsq (.ret ?_))
    have hr := Option.some.inj h
    subst hr
    exact rrA (res_tmp h6) rfl
  refine g_no (h10.trans (congrArg V.bool hg4)) ?_
  refine g_no (h10.trans (congrArg V.bool hg4)) ?_
  refine g_no (h10.trans (congrArg V.bool hg4)) ?_
  refine g2 10 13 (jb false) (h10.trans (congrArg V.bool hg4)) (rfl : (_ : V) = (.tup [])) fun h14 => ?_
  refine gm h14 fun h6 => gq (.nsq (.ret ?_))
  have hr := Option.some.inj h
  subst hr
  exact rrA (res_tmp h6) rfl
end
def e105 (F : Nat) : Ent := ent 105 (fun (x : (Int × Int × Int × Unit)) => i_within F x.1 x.2.1 x.2.2.1) (fun (r : Bool) => (Enc.enc (r : Bool))) 0 false []
theorem p105 {F : Nat} {x0 : Int} {x1 : Int} {x2 : Int} {r : Bool} (h : i_within F x0 x1 x2 = some r) : (e105 F).den [Enc.enc x0, Enc.enc x1, Enc.enc x2] = some (Enc.enc (r : Bool)) := ent_put (x0, x1, x2, ()) h
theorem o105 {D : Den} {σ : Sig} {F : Nat} (hF : Fits2 Try.prog D σ) (H : H105 D σ F) : (e105 F).Ok Try.prog := by
  refine ok_of (f := 105) (show unk 105 = 105 from rfl) (fun args r h => ?_) ⟨Try.f105, Try.func105, rfl, rfl⟩
  obtain ⟨⟨x0, x1, x2, _⟩, y, rfl, hy, rfl⟩ := da_open h
  exact contract_run hF (by kernel_rfl) Try.func105 rfl c105 (show 3 ≤ Try.f105.ntmps by decide) (t105 H x0 x1 x2 _ ⟨rfl, rfl, rfl⟩ hy)
/- cmp.isNaN[int] -/
def A180_1 : AC := (.seq (.reg [] [(jm 3 0), (jm 4 0), ((jv 5 (.bin .neq (.t 3) (.t 4)))), (jm 2 5)] []) .ret)
def A180 : AC := (.seq (.reg [] [((jv 2 (.mov (.k (.bool false)))))] []) A180_1)
def an180 : List An := []
theorem c180 : cC Try.prog Try.f180.ntmps an180 (Try.f180.body.getD .skip) = some A180 := by kernel_rfl
structure H180 (D : Den) (σ : Sig) (F : Nat) : Prop where
  mk ::
abbrev R180 (r : Bool) : (Nat → V) → Prop := RR Try.prog [.tmp 2] 0 false (Enc.enc (r : Bool))
section
variable {D : Den} {σ : Sig} {F : Nat} {r : Bool}
def cmp_isNaN_int (F : Nat) (x_1 : Int) : Option Bool :=
  some (x_1 != x_1)
theorem t180 (H : H180 D σ F) (x_1 : Int) (s : Nat → V) (hs : Facts [(0, (ji x_1))] s) (h : cmp_isNaN_int F x_1 = some r) : Run D σ (R180 r) (.run A180 []) s := by
  unfold cmp_isNaN_int at h
  have h0 := hs
  refine .seq (rg (g0 (jb false) fun h2 => ?_))
  refine gq (.nsq (.seq (rg (gm h0 fun h3 => gm h0 fun h4 => g2 3 4 (jb (x_1 != x_1)) h3 h4 fun h5 => ?_))))
  refine gm h5 fun h2 => gq (.nsq (.ret ?_))
  have hr := Option.some.inj h
  subst hr
  exact rrA (res_tmp h2) rfl
end
def e180 (F : Nat) : Ent := ent 180 (fun (x : (Int × Unit)) => cmp_isNaN_int F x.1) (fun (r : Bool) => (Enc.enc (r : Bool))) 0 false []
theorem p180 {F : Nat} {x0 : Int} {r : Bool} (h : cmp_isNaN_int F x0 = some r) : (e180 F).den [Enc.enc x0] = some (Enc.enc (r : Bool)) := ent_put (x0, ()) h
theorem o180 {D : Den} {σ : Sig} {F : Nat} (hF : Fits2 Try.prog D σ) (H : H180 D σ F) : (e180 F).Ok Try.prog := by
  refine ok_of (f := 180) (show unk 180 = 180 from rfl) (fun args r h => ?_) ⟨Try.f180, Try.func180, rfl, rfl⟩
  obtain ⟨⟨x0, _⟩, y, rfl, hy, rfl⟩ := da_open h
  exact contract_run hF (by kernel_rfl) Try.func180 rfl c180 (show 1 ≤ Try.f180.ntmps by decide) (t180 H x0 _ rfl hy)
/- cmp.Compare[int] -/
def A153_5 : AC := (.cond (.t 12) (.seq (.reg [] [((jv 4 (.mov (jn 0))))] []) .ret) .skip)
def A153_6 : AC := (.seq (.reg [] [((jv 4 (.mov (jn (-1)))))] []) .ret)
def A153_4 : AC := (.cond (.t 11) (.seq (.seq (.reg [] [(jm 12 6)] []) A153_5) A153_6) .skip)
def A153_8 : AC := (.cond (.t 13) (.seq (.reg [] [((jv 4 (.mov (jn 1))))] []) .ret) .skip)
def A153_10 : AC := (.cond (.t 16) (.seq (.reg [] [((jv 4 (.mov (jn (-1)))))] []) .ret) .skip)
def A153_12 : AC := (.cond (.t 19) (.seq (.reg [] [((jv 4 (.mov (jn 1))))] []) .ret) .skip)
def A153_13 : AC := (.seq (.reg [] [((jv 4 (.mov (jn 0))))] []) .ret)
def A153_11 : AC := (.seq (.seq (.reg [] [(jm 17 0), (jm 18 1), ((jv 19 (.bin .gtr (.t 17) (.t 18))))] []) A153_12) A153_13)
def A153_9 : AC := (.seq (.seq (.reg [] [(jm 14 0), (jm 15 1), ((jv 16 (.bin .lss (.t 14) (.t 15))))] []) A153_10) A153_11)
def A153_7 : AC := (.seq (.seq (.reg [] [(jm 13 6)] []) A153_8) A153_9)
def A153_3 : AC := (.seq (.seq (.reg [] [(jm 11 5)] []) A153_4) A153_7)
def A153_2 : AC := (.seq (.reg [] [(jm 9 1), (.mk (some 10) none false (.call (.k (.fn 180 [] [])) [(.t 9)])), (jm 6 10)] []) A153_3)
def A153_1 : AC := (.seq (.reg [] [(jm 7 0), (.mk (some 8) none false (.call (.k (.fn 180 [] [])) [(.t 7)])), (jm 5 8)] []) A153_2)
def A153 : AC := (.seq (.reg [] [((jv 4 (.mov (jn 0))))] []) A153_1)
def an153 : List An := []
theorem c153 : cC Try.prog Try.f153.ntmps an153 (Try.f153.body.getD .skip) = some A153 := by kernel_rfl
structure H153 (D : Den) (σ : Sig) (F : Nat) : Prop where
  c180 : ∀ (x0 : Int) r, cmp_isNaN_int F x0 = some r → D 180 [Enc.enc x0] = some (Enc.enc (r : Bool))
  g180 : σ 180 = some (0, false)
abbrev R153 (r : Int) : (Nat → V) → Prop := RR Try.prog [.tmp 4] 0 false (Enc.enc (r : Int))
section
variable {D : Den} {σ : Sig} {F : Nat} {r : Int}
def cmp_Compare_int (F : Nat) (x_1 : Int) (x_2 : Int) : Option Int :=
  (cmp_isNaN_int F x_1).bind fun r_3 =>
  (cmp_isNaN_int F x_2).bind fun r_4 =>
  bif r_3 then
    bif r_4 then
      some 0
    else
      some (-1)
  else
    bif r_4 then
      some 1
    else
      bif decide (x_1 < x_2) then
        some (-1)
      else
        bif decide (x_1 > x_2) then
          some 1
        else
          some 0
theorem t153 (H : H153 D σ F) (x_1 : Int) (x_2 : Int) (s : Nat → V) (hs : Facts [(0, (ji x_1)), (1, (ji x_2))] s) (h : cmp_Compare_int F x_1 x_2 = some r) : Run D σ (R153 r) (.run A153 []) s := by
  unfold cmp_Compare_int at h
  obtain ⟨h0, h1⟩ := hs
  refine .seq (rg (g0 (ji 0) fun h4 => gq (.nsq (.seq (rg (gm h0 fun h7 => ?_))))))
  obtain ⟨r_3, E_r_3, h⟩ := bind_some h
  refine g_call (m := 0) (al := false) (r := (Enc.enc (r_3 : Bool))) [Enc.enc (x_1 : Int)] (ta_cons (v := (ji x_1)) h7 rfl rfl ta_nil) (H.c180 _ _ E_r_3) H.g180 rfl rfl rfl rfl ?_
  refine gm (rfl : (_ : V) = (jb r_3)) fun h5 => ?_
  refine gq (.nsq (.seq (rg (gm h1 fun h9 => ?_))))
  obtain ⟨r_4, E_r_4, h⟩ := bind_some h
  refine g_call (m := 0) (al := false) (r := (Enc.enc (r_4 : Bool))) [Enc.enc (x_2 : Int)] (ta_cons (v := (ji x_2)) h9 rfl rfl ta_nil) (H.c180 _ _ E_r_4) H.g180 rfl rfl rfl rfl ?_
  refine gm (rfl : (_ : V) = (jb r_4)) fun h6 => ?_
  refine gq (.nsq (.seq (.seq (rg (gm h5 fun h11 => gq (.nsq (run_cond (t := r_3) h11 h (fun h => ?_) (fun h => ?_))))))))
  · refine .seq (.seq (rg (gm h6 fun h12 => gq (.nsq (run_cond (t := r_4) h12 h (fun h => ?_) (fun h => ?_))))))
    · refine .seq (rg (g0 (ji 0) fun h4 => gq (.nsq (.ret ?_))))
      have hr := Option.some.inj h
      subst hr
      exact rrA (res_tmp h4) rfl
    refine .skip (.nsq (.seq (rg (g0 (ji (-1)) fun h4 => ?_))))
    refine gq (.nsq (.ret ?_))
    have hr := Option.some.inj h
    subst hr
    exact rrA (res_tmp h4) rfl
  refine .skip (.nsq (.seq (.seq (rg (gm h6 fun h13 => gq (.nsq (run_cond (t := r_4) h13 h (fun h => ?_) (fun h => ?_))))))))
  · refine .seq (rg (g0 (ji 1) fun h4 => gq (.nsq (.ret ?_))))
    have hr := Option.some.inj h
    subst hr
    exact rrA (res_tmp h4) rfl
  refine .skip (.nsq (.seq (.seq (rg (gm h0 fun h14 => gm h1 fun h15 => g2 14 15 (jb (decide (x_1 < x_2))) h14 h15 fun h16 => ?_)))))
  refine gq (.nsq (run_cond (t := decide (x_1 < x_2)) h16 h (fun h => ?_) (fun h => ?_)))
  · refine .seq (rg (g0 (ji (-1)) fun h4 => ?_))
    refine gq (.nsq (.ret ?_))
    have hr := Option.some.inj h
    subst hr
    exact rrA (res_tmp h4) rfl
  refine .skip (.nsq (.seq (.seq (rg (gm h0 fun h17 => gm h1 fun h18 => g2 17 18 (jb (decide (x_1 > x_2))) h17 h18 fun h19 => ?_)))))
  refine gq (.nsq (run_cond (t := decide (x_1 > x_2)) h19 h (fun h => ?_) (fun h => ?_)))
  · refine .seq (rg (g0 (ji 1) fun h4 => gq (.nsq (.ret ?_))))
    have hr := Option.some.inj h
    subst hr
    exact rrA (res_tmp h4) rfl
  refine .skip (.nsq (.seq (rg (g0 (ji 0) fun h4 => gq (.nsq (.ret ?_))))))
  have hr := Option.some.inj h
  subst hr
  exact rrA (res_tmp h4) rfl
end
def e153 (F : Nat) : Ent := ent 153 (fun (x : (Int × Int × Unit)) => cmp_Compare_int F x.1 x.2.1) (fun (r : Int) => (Enc.enc (r : Int))) 0 false []
theorem p153 {F : Nat} {x0 : Int} {x1 : Int} {r : Int} (h : cmp_Compare_int F x0 x1 = some r) : (e153 F).den [Enc.enc x0, Enc.enc x1] = some (Enc.enc (r : Int)) := ent_put (x0, x1, ()) h
theorem o153 {D : Den} {σ : Sig} {F : Nat} (hF : Fits2 Try.prog D σ) (H : H153 D σ F) : (e153 F).Ok Try.prog := by
  refine ok_of (f := 153) (show unk 153 = 153 from rfl) (fun args r h => ?_) ⟨Try.f153, Try.func153, rfl, rfl⟩
  obtain ⟨⟨x0, x1, _⟩, y, rfl, hy, rfl⟩ := da_open h
  exact contract_run hF (by kernel_rfl) Try.func153 rfl c153 (show 2 ≤ Try.f153.ntmps by decide) (t153 H x0 x1 _ ⟨rfl, rfl⟩ hy)
/- slices.Compare[[]int,int] -/
def A94_5 : AC := (.cond (.t 19) (.seq (.reg [] [((jv 4 (.mov (jn 1))))] []) .ret) .skip)
def A94_9 : AC := (.cond (.t 28) (.seq (.reg [] [(jm 29 8), (jm 4 29)] []) .ret) .skip)
def A94_8 : AC := (.seq (.reg [] [(jm 27 8), ((jv 28 (.bin .neq (.t 27) (jn 0))))] []) A94_9)
def A94_7 : AC := (.seq (.reg [] [(jm 24 6), (jm 25 7), (.mk (some 26) none false (.call (.k (.fn 153 [] [])) [(.t 24), (.t 25)])), (jm 8 26)] []) A94_8)
def A94_6 : AC := (.seq (.reg [] [(jm 20 1), (jm 21 5), ((jv 22 (.idx (.t 20) (.t 21) 1))), ((jv 23 (.load .s (.t 22)))), (jm 7 23)] []) A94_7)
def A94_4 : AC := (.seq (.seq (.reg [] [(jm 16 5), (jm 17 1), ((jv 18 (.len (.t 17)))), ((jv 19 (.bin .geq (.t 16) (.t 18))))] []) A94_5) A94_6)
def A94_10 : AC := (.reg [] [((jv 30 (.bin .add (.t 11) (jn 1)))), (jm 11 30)] [])
def A94_3 : AC := (.seq (.block 1 (.seq (.reg [] [(jm 13 11), ((jv 14 (.idx (.t 9) (.t 11) 1))), ((jv 15 (.load .s (.t 14)))), (jm 5 13), (jm 6 15)] []) A94_4)) A94_10)
def A94_2 : AC := (.seq (.cond (.t 12) .skip (.exit 0)) A94_3)
def A94_1 : AC := (.seq (.reg [] [((jv 12 (.bin .lss (.t 11) (.t 10))))] []) A94_2)
def A94_12 : AC := (.cond (.t 35) (.seq (.reg [] [((jv 4 (.mov (jn (-1)))))] []) .ret) .skip)
def A94_13 : AC := (.seq (.reg [] [((jv 4 (.mov (jn 0))))] []) .ret)
def A94_11 : AC := (.seq (.seq (.reg [] [(jm 31 0), ((jv 32 (.len (.t 31)))), (jm 33 1), ((jv 34 (.len (.t 33)))), ((jv 35 (.bin .lss (.t 32) (.t 34))))] []) A94_12) A94_13)
def A94_15 : AC := (.block 0 (.loop A94_1))
def A94_14 : AC := (.seq (.seq (.reg [] [(jm 9 0), ((jv 10 (.len (.t 9)))), ((jv 11 (.mov (jn 0))))] []) A94_15) A94_11)
def A94 : AC := (.seq (.reg [] [((jv 4 (.mov (jn 0))))] []) A94_14)
def an94 : List An := []
theorem c94 : cC Try.prog Try.f94.ntmps an94 (Try.f94.body.getD .skip) = some A94 := by kernel_rfl
structure H94 (D : Den) (σ : Sig) (F : Nat) : Prop where
  c153 : ∀ (x0 : Int) (x1 : Int) r, cmp_Compare_int F x0 x1 = some r → D 153 [Enc.enc x0, Enc.enc x1] = some (Enc.enc (r : Int))
  g153 : σ 153 = some (0, false)
abbrev R94 (r : Int) : (Nat → V) → Prop := RR Try.prog [.tmp 4] 0 false (Enc.enc (r : Int))
section
variable {D : Den} {σ : Sig} {F : Nat} {r : Int}
def slices_Compare_l1 (F : Nat) (x_1 : (List Int)) (x_2 : (List Int))  : Nat → Int → Option Int
  | 0, _ => none
  | k + 1, x_6 =>
    bif decide (x_6 < (x_1.length : Int)) then
      (idx x_1 x_6).bind fun e_10 =>
      bif decide (x_6 ≥ (x_2.length : Int)) then
        some 1
      else
        (idx x_2 x_6).bind fun e_11 =>
        (cmp_Compare_int F e_10 e_11).bind fun r_12 =>
        bif (r_12 != 0) then
          some r_12
        else
          (slices_Compare_l1 F x_1 x_2 k) (w64 (x_6 + 1))
    else
      bif decide ((x_1.length : Int) < (x_2.length : Int)) then
        some (-1)
      else
        some 0
theorem t_f94_l1 (H : H94 D σ F) (x_1 : (List Int)) (x_2 : (List Int))  : ∀ (k : Nat) (x_6 : Int) (s : Nat → V), Facts [(0, (eL x_1)), (1, (eL x_2)), (4, (ji 0)), (9, (eL x_1)), (10, (ji (x_1.length : Int))), (11, (ji x_6))] s → slices_Compare_l1 F x_1 x_2 k x_6 = some r → Run D σ (R94 r) (.run A94_1 [.lp A94_1, .bk 0, .sq A94_11]) s := by
  intro k
  induction k with
  | zero => intro x_6 s _ h; exact nomatch (h : (none : Option _) = some r)
  | succ k ih =>
    intro x_6 s hs h
    rw [slices_Compare_l1] at h
    obtain ⟨h0, h1, h4, h9, h10, h11⟩ := hs
    refine .seq (rg (g2 11 10 (jb (decide (x_6 < (x_1.length : Int)))) h11 h10 fun h12 => ?_))
    refine gq (.nsq (.seq (run_cond (t := decide (x_6 < (x_1.length : Int))) h12 h (fun h => ?_) (fun h => ?_))))
    · refine .skip (.nsq (.seq (.block (.seq (rg (gm h11 fun h13 => ?_))))))
      obtain ⟨e_10, E_e_10, h⟩ := bind_some h
      refine gv (.ref .sh 0 [] (ji e_10)) (ev_idx (t := .sh) (lo := 0) (xs := x_1) h9 h11 E_e_10 rfl rfl) fun h14 => ?_
      refine g1 14 (ji e_10) h14 fun h15 => ?_
      refine gm h13 fun h5 => gm h15 fun h6 => gq (.nsq (.seq (.seq (rg (gm h5 fun h16 => gm h1 fun h17 => gv (ji (x_2.length : Int)) (ev_len (xs := x_2) h17) fun h18 => ?_)))))
      refine g2 16 18 (jb (decide (x_6 ≥ (x_2.length : Int)))) h16 h18 fun h19 => ?_
      refine gq (.nsq (run_cond (t := decide (x_6 ≥ (x_2.length : Int))) h19 h (fun h => ?_) (fun h => ?_)))
      · refine .seq (rg (g0 (ji 1) fun h4 => gq (.nsq (.ret ?_))))
        have hr := Option.some.inj h
        subst hr
        exact rrA (res_tmp h4) rfl
      refine .skip (.nsq (.seq (rg (gm h1 fun h20 => gm h5 fun h21 => ?_))))
      obtain ⟨e_11, E_e_11, h⟩ := bind_some h
      refine gv (.ref .sh 0 [] (ji e_11)) (ev_idx (t := .sh) (lo := 0) (xs := x_2) h20 h21 E_e_11 rfl rfl) fun h22 => ?_
      refine g1 22 (ji e_11) h22 fun h23 => ?_
      refine gm h23 fun h7 => gq (.nsq (.seq (rg (gm h6 fun h24 => gm h7 fun h25 => ?_))))
      obtain ⟨r_12, E_r_12, h⟩ := bind_some h
      refine g_call (m := 0) (al := false) (r := (Enc.enc (r_12 : Int))) [Enc.enc (e_10 : Int), Enc.enc (e_11 : Int)] (ta_cons (v := (ji e_10)) h24 rfl rfl (ta_cons (v := (ji e_11)) h25 rfl rfl ta_nil)) (H.c153 _ _ _ E_r_12) H.g153 rfl rfl rfl rfl ?_
      refine gm (rfl : (_ : V) = (ji r_12)) fun h8 => ?_
      refine gq (.nsq (.seq (rg (gm h8 fun h27 => g1 27 (jb (r_12 != 0)) h27 fun h28 => ?_))))
      refine gq (.nsq (run_cond (t := (r_12 != 0)) h28 h (fun h => ?_) (fun h => ?_)))
      · refine .seq (rg (gm h8 fun h29 => gm h29 fun h4 => gq (.nsq (.ret ?_))))
        have hr := Option.some.inj h
        subst hr
        exact rrA (res_tmp h4) rfl
      refine .skip (.nbk (.nsq (rg (g1 11 (ji (w64 (x_6 + 1))) h11 fun h30 => ?_))))
      refine gm h30 fun h11 => gq (.nlp ?_)
      exact ih (w64 (x_6 + 1)) _ ⟨h0, h1, h4, h9, h10, h11⟩ h
    refine .exit (.esq (.elp (.ebk (.nsq (.seq (.seq (rg (gm h0 fun h31 => gv (ji (x_1.length : Int)) (ev_len (xs := x_1) h31) fun h32 => ?_))))))))
    refine gm h1 fun h33 => gv (ji (x_2.length : Int)) (ev_len (xs := x_2) h33) fun h34 => ?_
    refine g2 32 34 (jb (decide ((x_1.length : Int) < (x_2.length : Int)))) h32 h34 fun h35 => ?_
    refine gq (.nsq (run_cond (t := decide ((x_1.length : Int) < (x_2.length : Int))) h35 h (fun h => ?_) (fun h => ?_)))
    · refine .seq (rg (g0 (ji (-1)) fun h4 => ?_))
      refine gq (.nsq (.ret ?_))
      have hr := Option.some.inj h
      subst hr
      exact rrA (res_tmp h4) rfl
    refine .skip (.nsq (.seq (rg (g0 (ji 0) fun h4 => gq (.nsq (.ret ?_))))))
    have hr := Option.some.inj h
    subst hr
    exact rrA (res_tmp h4) rfl
def slices_Compare (F : Nat) (x_1 : (List Int)) (x_2 : (List Int)) : Option Int :=
  slices_Compare_l1 F x_1 x_2 F 0
theorem t94 (H : H94 D σ F) (x_1 : (List Int)) (x_2 : (List Int)) (s : Nat → V) (hs : Facts [(0, (eL x_1)), (1, (eL x_2))] s) (h : slices_Compare F x_1 x_2 = some r) : Run D σ (R94 r) (.run A94 []) s := by
  unfold slices_Compare at h
  obtain ⟨h0, h1⟩ := hs
  refine .seq (rg (g0 (ji 0) fun h4 => gq (.nsq (.seq (.seq (rg (gm h0 fun h9 => gv (ji (x_1.length : Int)) (ev_len (xs := x_1) h9) fun h10 => ?_)))))))
  refine g0 (ji 0) fun h11 => gq (.nsq (.block (.loop ?_)))
  exact t_f94_l1 H x_1 x_2 F 0 _ ⟨h0, h1, h4, h9, h10, h11⟩ h
end
def e94 (F : Nat) : Ent := ent 94 (fun (x : ((List Int) × (List Int) × Unit)) => slices_Compare F x.1 x.2.1) (fun (r : Int) => (Enc.enc (r : Int))) 0 false []
theorem p94 {F : Nat} {x0 : (List Int)} {x1 : (List Int)} {r : Int} (h : slices_Compare F x0 x1 = some r) : (e94 F).den [Enc.enc x0, Enc.enc x1] = some (Enc.enc (r : Int)) := ent_put (x0, x1, ()) h
theorem o94 {D : Den} {σ : Sig} {F : Nat} (hF : Fits2 Try.prog D σ) (H : H94 D σ F) : (e94 F).Ok Try.prog := by
  refine ok_of (f := 94) (show unk 94 = 94 from rfl) (fun args r h => ?_) ⟨Try.f94, Try.func94, rfl, rfl⟩
  obtain ⟨⟨x0, x1, _⟩, y, rfl, hy, rfl⟩ := da_open h
  exact contract_run hF (by kernel_rfl) Try.func94 rfl c94 (show 2 ≤ Try.f94.ntmps by decide) (t94 H x0 x1 _ ⟨rfl, rfl⟩ hy)
/- loop.example/g01109/impl.IsGraph -/
def A63_5 : AC := (.cond (.t 48) (.seq (.reg [] [((jv 2 (.mov (.k (.bool false)))))] []) .ret) .skip)
def A63_4 : AC := (.seq (.reg [] [((jv 17 (.idxA (.t 4) (jn 0) 2 1))), ((jv 18 (.load .s (.t 17)))), ((jv 19 (.bin .lss (.t 18) (jn 0)))), (jm 20 19), ((jg 21 20 false (.idxA (.t 4) (jn 0) 2 1))), ((jg 22 20 false (.load .s (.t 21)))), ((jg 23 20 false (.idxA (.t 4) (jn 1) 2 1))), ((jg 24 20 false (.load .s (.t 23)))), ((jg 25 20 false (.bin .geq (.t 22) (.t 24)))), ((jv 26 (.pick (.t 20) (.k (.bool true)) (.t 25)))), (jm 27 26), ((jg 28 27 false (.idxA (.t 4) (jn 1) 2 1))), ((jg 29 27 false (.load .s (.t 28)))), ((jg 30 27 false (.fld (.t 1) 0 0))), ((jg 31 27 false (.load .s (.t 30)))), ((jg 32 27 false (.bin .geq (.t 29) (.t 31)))), ((jv 33 (.pick (.t 27) (.k (.bool true)) (.t 32)))), (jm 34 33), ((jg 35 34 false (.mov (.t 3)))), ((jg 36 34 false (.bin .gtr (.t 35) (jn 0)))), ((jg 37 34 false (.mov (.t 36)))), ((jg 38 37 true (.fld (.t 1) 1 1))), ((jg 39 37 true (.load .p (.t 38)))), ((jg 40 37 true (.mov (.t 3)))), ((jg 41 37 true (.bin .sub (.t 40) (jn 1)))), ((jg 42 37 true (.idx (.t 39) (.t 41) 2))), ((jg 43 37 true (.sliceA (.t 42) 2 .s))), ((jg 44 37 true (.sliceA (.t 4) 2 .s))), (.mk (some 45) (some (37, true)) false (.call (.k (.fn 94 [] [])) [(.t 43), (.t 44)])), ((jg 46 37 true (.bin .geq (.t 45) (jn 0)))), ((jg 47 34 false (.pick (.t 37) (.t 46) (.k (.bool false))))), ((jv 48 (.pick (.t 34) (.k (.bool true)) (.t 47))))] []) A63_5)
def A63_6 : AC := (.reg [] [((jv 49 (.bin .add (.t 12) (jn 1)))), (jm 12 49)] [])
def A63_3 : AC := (.seq (.block 1 (.seq (.reg [.clr [4]] [(jm 14 12), ((jv 15 (.idx (.t 10) (.t 12) 2))), ((jv 16 (.load (.ag [.s, .s]) (.t 15)))), (.mk (some 4) none false (.alloc (.agg [(.int .i64 (.ofNat 0)), (.int .i64 (.ofNat 0))]))), (jm 3 14), (.mk none none false (.store (.ag [.s, .s]) (.t 4) (.t 16)))] []) A63_4)) A63_6)
def A63_2 : AC := (.seq (.cond (.t 13) .skip (.exit 0)) A63_3)
def A63_1 : AC := (.seq (.reg [] [((jv 13 (.bin .lss (.t 12) (.t 11))))] []) A63_2)
def A63_7 : AC := (.seq (.reg [] [((jv 2 (.mov (.k (.bool true)))))] []) .ret)
def A63_9 : AC := (.cond (.t 8) (.seq (.reg [] [((jv 2 (.mov (.k (.bool false)))))] []) .ret) .skip)
def A63_11 : AC := (.block 0 (.loop A63_1))
def A63_10 : AC := (.seq (.seq (.reg [] [((jv 9 (.fld (.t 1) 1 1))), ((jv 10 (.load .p (.t 9)))), ((jv 11 (.len (.t 10)))), ((jv 12 (.mov (jn 0))))] []) A63_11) A63_7)
def A63_8 : AC := (.seq (.seq (.reg [] [((jv 5 (.fld (.t 1) 0 0))), ((jv 6 (.load .s (.t 5)))), (.mk (some 7) none false (.call (.k (.fn 105 [] [])) [(.t 6), (jn 0), (jn 8)])), ((jv 8 (.un .not (.t 7))))] []) A63_9) A63_10)
def A63 : AC := (.seq (.reg [.clr [1]] [(.mk (some 1) none false (.box (.t 0))), ((jv 2 (.mov (.k (.bool false)))))] []) A63_8)
def an63 : List An := [{ id := 0, pre := [.clr [1]], ep := [], lin := [], sp := [] }, { id := 5, pre := [.clr [4]], ep := [], lin := [], sp := [] }]
theorem c63 : cC Try.prog Try.f63.ntmps an63 (Try.f63.body.getD .skip) = some A63 := by kernel_rfl
structure H63 (D : Den) (σ : Sig) (F : Nat) : Prop where
  c105 : ∀ (x0 : Int) (x1 : Int) (x2 : Int) r, i_within F x0 x1 x2 = some r → D 105 [Enc.enc x0, Enc.enc x1, Enc.enc x2] = some (Enc.enc (r : Bool))
  g105 : σ 105 = some (0, false)
  c94 : ∀ (x0 : (List Int)) (x1 : (List Int)) r, slices_Compare F x0 x1 = some r → D 94 [Enc.enc x0, Enc.enc x1] = some (Enc.enc (r : Int))
  g94 : σ 94 = some (0, false)
abbrev R63 (r : Bool) : (Nat → V) → Prop := RR Try.prog [.tmp 2] 0 false (Enc.enc (r : Bool))
section
variable {D : Den} {σ : Sig} {F : Nat} {r : Bool}
def i_IsGraph_j1 (F : Nat) (x_1 : (Int × (List (Int × Int)))) (x_9 : Int) (c1 : Int → Option Bool) (x_19 : Bool) : Option Bool :=
  bif x_19 then
    some false
  else
    c1 (w64 (x_9 + 1))
theorem t_f63_j1 (H : H63 D σ F) (x_1 : (Int × (List (Int × Int)))) (x_9 : Int) (c1 : Int → Option Bool) (Hc1 : ∀ (x_9 : Int) (s : Nat → V), Facts [(1, (.ref (.bx 1) 0 [] (.agg [(ji x_1.1), (Enc.enc (x_1.2 : List (Int × Int)))]))), (2, (jb false)), (10, (Enc.enc (x_1.2 : List (Int × Int)))), (11, (ji (x_1.2.length : Int))), (12, (ji x_9))] s → c1 x_9 = some r → Run D σ (R63 r) (.run A63_1 [.lp A63_1, .bk 0, .sq A63_7]) s) (x_19 : Bool) (s : Nat → V) (hs : Facts [(1, (.ref (.bx 1) 0 [] (.agg [(ji x_1.1), (Enc.enc (x_1.2 : List (Int × Int)))]))), (2, (jb false)), (10, (Enc.enc (x_1.2 : List (Int × Int)))), (11, (ji (x_1.2.length : Int))), (12, (ji x_9)), (48, (jb x_19))] s) (h : i_IsGraph_j1 F x_1 x_9 c1 x_19 = some r) : Run D σ (R63 r) (.nrm [.sq A63_5, .bk 1, .sq A63_6, .lp A63_1, .bk 0, .sq A63_7]) s := by
  unfold i_IsGraph_j1 at h
  obtain ⟨h1, h2, h10, h11, h12, h48⟩ := hs
  refine .nsq (run_cond (t := x_19) h48 h (fun h => ?_) (fun h => ?_))
  · refine .seq (rg (g0 (jb false) fun h2 => ?_))
    refine gq (.nsq (.ret ?_))
    have hr := Option.some.inj h
    subst hr
    exact rrA (res_tmp h2) rfl
  refine .skip (.nbk (.nsq (rg (g1 12 (ji (w64 (x_9 + 1))) h12 fun h49 => ?_))))
  refine gm h49 fun h12 => gq (.nlp ?_)
  exact Hc1 (w64 (x_9 + 1)) _ ⟨h1, h2, h10, h11, h12⟩ h
def i_IsGraph_l1 (F : Nat) (x_1 : (Int × (List (Int × Int))))  : Nat → Int → Option Bool
  | 0, _ => none
  | k + 1, x_9 =>
    bif decide (x_9 < (x_1.2.length : Int)) then
      (idx x_1.2 x_9).bind fun e_16 =>
      bif decide (e_16.1 < 0) then
        i_IsGraph_j1 F x_1 x_9 (i_IsGraph_l1 F x_1 k) true
      else
        bif decide (e_16.1 ≥ e_16.2) then
          i_IsGraph_j1 F x_1 x_9 (i_IsGraph_l1 F x_1 k) true
        else
          bif decide (e_16.2 ≥ x_1.1) then
            i_IsGraph_j1 F x_1 x_9 (i_IsGraph_l1 F x_1 k) true
          else
            bif decide (x_9 > 0) then
              (idx x_1.2 (w64 (x_9 - 1))).bind fun e_20 =>
              (slices_Compare F [e_20.1, e_20.2] [e_16.1, e_16.2]).bind fun r_21 =>
              i_IsGraph_j1 F x_1 x_9 (i_IsGraph_l1 F x_1 k) (decide (r_21 ≥ 0))
            else
              i_IsGraph_j1 F x_1 x_9 (i_IsGraph_l1 F x_1 k) false
    else
      some true
theorem t_f63_l1 (H : H63 D σ F) (x_1 : (Int × (List (Int × Int))))  : ∀ (k : Nat) (x_9 : Int) (s : Nat → V), Facts [(1, (.ref (.bx 1) 0 [] (.agg [(ji x_1.1), (Enc.enc (x_1.2 : List (Int × Int)))]))), (2, (jb false)), (10, (Enc.enc (x_1.2 : List (Int × Int)))), (11, (ji (x_1.2.length : Int))), (12, (ji x_9))] s → i_IsGraph_l1 F x_1 k x_9 = some r → Run D σ (R63 r) (.run A63_1 [.lp A63_1, .bk 0, .sq A63_7]) s := by
  intro k
  induction k with
  | zero => intro x_9 s _ h; exact nomatch (h : (none : Option _) = some r)
  | succ k ih =>
    intro x_9 s hs h
    rw [i_IsGraph_l1] at h
    obtain ⟨h1, h2, h10, h11, h12⟩ := hs
    refine .seq (rg (g2 12 11 (jb (decide (x_9 < (x_1.2.length : Int)))) h12 h11 fun h13 => ?_))
    refine gq (.nsq (.seq (run_cond (t := decide (x_9 < (x_1.2.length : Int))) h13 h (fun h => ?_) (fun h => ?_))))
    · refine .skip (.nsq (.seq (.block (.seq (run_reg ?_)))))
      refine e_clr ?_
      refine ez [(1, _), (2, _), (4, _), (10, _), (11, _), (12, _)] ⟨(keep_clear (pk := [4]) h1 rfl (map_bx rfl (map_agg (maps_cons mi (maps_cons me maps_nil))))), (keep_clear (pk := [4]) h2 rfl mb), (gone_clear (pk := [4]) (t := 4) rfl), (keep_clear (pk := [4]) h10 rfl me), (keep_clear (pk := [4]) h11 rfl mi), (keep_clear (pk := [4]) h12 rfl mi)⟩ ?_
      rintro s ⟨h1, h2, h4, h10, h11, h12⟩
      refine gm h12 fun h14 => ?_
      obtain ⟨e_16, E_e_16, h⟩ := bind_some h
      refine gv (.ref .sh 0 [] (.agg [(ji e_16.1), (ji e_16.2)])) (ev_idx (t := .sh) (lo := 0) (xs := x_1.2) h10 h12 E_e_16 rfl rfl) fun h15 => ?_
      refine g1 15 (.agg [(ji e_16.1), (ji e_16.2)]) h15 fun h16 => ?_
      refine g_alloc h4 ?_
      refine gm h14 fun h3 => g_store (.agg [(ji e_16.1), (ji e_16.2)]) (rd_of rfl rfl) (rd_of h16 rfl) (by refine ⟨by decide, by decide, rfl, rfl, rfl, ?_⟩; first | rfl | (simp [V.toks, V.tokss, Enc.toks_enc]; done) | simp [V.toks, V.tokss, Enc.toks_enc, tok_memP]) ?_
      refine gz [(1, (.ref (.bx 1) 0 [] (.agg [(ji x_1.1), (Enc.enc (x_1.2 : List (Int × Int)))]))), (2, (jb false)), (3, (ji x_9)), (4, (.ref (.bx 4) 0 [] (.agg [(ji e_16.1), (ji e_16.2)]))), (10, (Enc.enc (x_1.2 : List (Int × Int)))), (11, (ji (x_1.2.length : Int))), (12, (ji x_9))] ⟨(keep_mut h1 (mut_ref_ne rfl rfl (mut_agg (muts_cons rfl (muts_cons (Enc.mut_enc _ _ _ _ (x_1.2 : List (Int × Int))) rfl))))), (keep_mut h2 rfl), (keep_mut h3 rfl), (keep_mut rfl rfl), (keep_mut h10 (Enc.mut_enc _ _ _ _ (x_1.2 : List (Int × Int)))), (keep_mut h11 rfl), (keep_mut h12 rfl)⟩ ?_
      rintro s ⟨h1, h2, h3, h4, h10, h11, h12⟩
      refine .nsq (.seq (rg (g1 4 (.ref (.bx 4) 0 [0] (ji e_16.1)) h4 fun h17 => ?_)))
      refine g1 17 (ji e_16.1) h17 fun h18 => ?_
      refine g1 18 (jb (decide (e_16.1 < 0))) h18 fun h19 => ?_
      refine gm h19 fun h20 => split_on (c := decide (e_16.1 < 0)) h (fun hg4 h => ?_) (fun hg4 h => ?_)
      · refine g_no (h20.trans (congrArg V.bool hg4)) ?_
        refine g_no (h20.trans (congrArg V.bool hg4)) ?_
        refine g_no (h20.trans (congrArg V.bool hg4)) ?_
        refine g_no (h20.trans (congrArg V.bool hg4)) ?_
        refine g_no (h20.trans (congrArg V.bool hg4)) ?_
        refine g2 20 25 (jb true) (h20.trans (congrArg V.bool hg4)) (rfl : (_ : V) = (.tup [])) fun h26 => ?_
        refine gm h26 fun h27 => g_no h27 ?_
        refine g_no h27 ?_
        refine g_no h27 ?_
        refine g_no h27 ?_
        refine g_no h27 ?_
        refine g2 27 32 (jb true) h27 (rfl : (_ : V) = (.tup [])) fun h33 => ?_
        refine gm h33 fun h34 => g_no h34 ?_
        refine g_no h34 ?_
        refine g_no h34 ?_
        refine g_skip rfl ?_
        refine g_skip rfl ?_
        refine g_skip rfl ?_
        refine g_skip rfl ?_
        refine g_skip rfl ?_
        refine g_skip rfl ?_
        refine g_skip rfl ?_
        refine g_skip rfl ?_
        refine g_skip rfl ?_
        refine g_no h34 ?_
        refine g2 34 47 (jb true) h34 (rfl : (_ : V) = (.tup [])) fun h48 => ?_
        refine gz [(1, _), (2, _), (10, _), (11, _), (12, _), (48, _)] ⟨h1, h2, h10, h11, h12, h48⟩ ?_
        rintro s ⟨h1, h2, h10, h11, h12, h48⟩
        exact t_f63_j1 H x_1 x_9 (i_IsGraph_l1 F x_1 k) ih true _ ⟨h1, h2, h10, h11, h12, h48⟩ h
      refine g_yes (h20.trans (congrArg V.bool hg4)) (g1 4 (.ref (.bx 4) 0 [0] (ji e_16.1)) h4 fun h21 => ?_)
      refine g_yes (h20.trans (congrArg V.bool hg4)) (g1 21 (ji e_16.1) h21 fun h22 => ?_)
      refine g_yes (h20.trans (congrArg V.bool hg4)) (g1 4 (.ref (.bx 4) 0 [1] (ji e_16.2)) h4 fun h23 => ?_)
      refine g_yes (h20.trans (congrArg V.bool hg4)) (g1 23 (ji e_16.2) h23 fun h24 => ?_)
      refine g_yes (h20.trans (congrArg V.bool hg4)) (g2 22 24 (jb (decide (e_16.1 ≥ e_16.2))) h22 h24 fun h25 => ?_)
      refine g2 20 25 (jb (decide (e_16.1 ≥ e_16.2))) (h20.trans (congrArg V.bool hg4)) h25 fun h26 => ?_
      refine gm h26 fun h27 => split_on (c := decide (e_16.1 ≥ e_16.2)) h (fun hg11 h => ?_) (fun hg11 h => ?_)
      · refine g_no (h27.trans (congrArg V.bool hg11)) ?_
        refine g_no (h27.trans (congrArg V.bool hg11)) ?_
        refine g_no (h27.trans (congrArg V.bool hg11)) ?_
        refine g_no (h27.trans (congrArg V.bool hg11)) ?_
        refine g_no (h27.trans (congrArg V.bool hg11)) ?_
        refine g2 27 32 (jb true) (h27.trans (congrArg V.bool hg11)) (rfl : (_ : V) = (.tup [])) fun h33 => ?_
        refine gm h33 fun h34 => g_no h34 ?_
        refine g_no h34 ?_
        refine g_no h34 ?_
        refine g_skip rfl ?_
        refine g_skip rfl ?_
        refine g_skip rfl ?_
        refine g_skip rfl ?_
        refine g_skip rfl ?_
        refine g_skip rfl ?_
        refine g_skip rfl ?_
        refine g_skip rfl ?_
        refine g_skip rfl ?_
        refine g_no h34 ?_
        refine g2 34 47 (jb true) h34 (rfl : (_ : V) = (.tup [])) fun h48 => ?_
        refine gz [(1, _), (2, _), (10, _), (11, _), (12, _), (48, _)] ⟨h1, h2, h10, h11, h12, h48⟩ ?_
        rintro s ⟨h1, h2, h10, h11, h12, h48⟩
        exact t_f63_j1 H x_1 x_9 (i_IsGraph_l1 F x_1 k) ih true _ ⟨h1, h2, h10, h11, h12, h48⟩ h
      refine g_yes (h27.trans (congrArg V.bool hg11)) (g1 4 (.ref (.bx 4) 0 [1] (ji e_16.2)) h4 fun h28 => ?_)
      refine g_yes (h27.trans (congrArg V.bool hg11)) (g1 28 (ji e_16.2) h28 fun h29 => ?_)
      refine g_yes (h27.trans (congrArg V.bool hg11)) (g1 1 (.ref (.bx 1) 0 [0] (ji x_1.1)) h1 fun h30 => ?_)
      refine g_yes (h27.trans (congrArg V.bool hg11)) (g1 30 (ji x_1.1) h30 fun h31 => ?_)
      refine g_yes (h27.trans (congrArg V.bool hg11)) (g2 29 31 (jb (decide (e_16.2 ≥ x_1.1))) h29 h31 fun h32 => ?_)
      refine g2 27 32 (jb (decide (e_16.2 ≥ x_1.1))) (h27.trans (congrArg V.bool hg11)) h32 fun h33 => ?_
      refine gm h33 fun h34 => split_on (c := decide (e_16.2 ≥ x_1.1)) h (fun hg18 h => ?_) (fun hg18 h => ?_)
      · refine g_no (h34.trans (congrArg V.bool hg18)) ?_
        refine g_no (h34.trans (congrArg V.bool hg18)) ?_
        refine g_no (h34.trans (congrArg V.bool hg18)) ?_
        refine g_skip rfl ?_
        refine g_skip rfl ?_
        refine g_skip rfl ?_
        refine g_skip rfl ?_
        refine g_skip rfl ?_
        refine g_skip rfl ?_
        refine g_skip rfl ?_
        refine g_skip rfl ?_
        refine g_skip rfl ?_
        refine g_no (h34.trans (congrArg V.bool hg18)) ?_
        refine g2 34 47 (jb true) (h34.trans (congrArg V.bool hg18)) (rfl : (_ : V) = (.tup [])) fun h48 => ?_
        refine gz [(1, _), (2, _), (10, _), (11, _), (12, _), (48, _)] ⟨h1, h2, h10, h11, h12, h48⟩ ?_
        rintro s ⟨h1, h2, h10, h11, h12, h48⟩
        exact t_f63_j1 H x_1 x_9 (i_IsGraph_l1 F x_1 k) ih true _ ⟨h1, h2, h10, h11, h12, h48⟩ h
      refine g_yes (h34.trans (congrArg V.bool hg18)) (gm h3 fun h35 => ?_)
      refine g_yes (h34.trans (congrArg V.bool hg18)) (g1 35 (jb (decide (x_9 > 0))) h35 fun h36 => ?_)
      refine g_yes (h34.trans (congrArg V.bool hg18)) (gm h36 fun h37 => ?_)
      refine split_on (c := decide (x_9 > 0)) h (fun hg21 h => ?_) (fun hg21 h => ?_)
      · refine g_yes (h37.trans (congrArg V.bool hg21)) (g1 1 (.ref (.bx 1) 0 [1] (Enc.enc (x_1.2 : List (Int × Int)))) h1 fun h38 => ?_)
        refine g_yes (h37.trans (congrArg V.bool hg21)) (g1 38 (Enc.enc (x_1.2 : List (Int × Int))) h38 fun h39 => ?_)
        refine g_yes (h37.trans (congrArg V.bool hg21)) (gm h3 fun h40 => ?_)
        refine g_yes (h37.trans (congrArg V.bool hg21)) (g1 40 (ji (w64 (x_9 - 1))) h40 fun h41 => ?_)
        obtain ⟨e_20, E_e_20, h⟩ := bind_some h
        refine g_yes (h37.trans (congrArg V.bool hg21)) (gv (.ref .sh 0 [] (.agg [(ji e_20.1), (ji e_20.2)])) (ev_idx (t := .sh) (lo := 0) (xs := x_1.2) h39 h41 E_e_20 rfl rfl) fun h42 => ?_)
        refine g_yes (h37.trans (congrArg V.bool hg21)) (g1 42 (eL [e_20.1, e_20.2]) h42 fun h43 => ?_)
        refine g_yes (h37.trans (congrArg V.bool hg21)) (g1 4 (encO (.bx 4) (.of ([e_16.1, e_16.2] : List Int))) h4 fun h44 => ?_)
        obtain ⟨r_21, E_r_21, h⟩ := bind_some h
        refine g_yes (h37.trans (congrArg V.bool hg21)) (g_call (m := 0) (al := false) (r := (Enc.enc (r_21 : Int))) [Enc.enc ([e_20.1, e_20.2] : (List Int)), Enc.enc ([e_16.1, e_16.2] : (List Int))] (ta_cons (v := (eL [e_20.1, e_20.2])) h43 rfl (Enc.erase_enc ([e_20.1, e_20.2] : (List Int))) (ta_cons (v := (encO (.bx 4) (.of ([e_16.1, e_16.2] : List Int)))) h44 rfl (erase_encO (o := .of [e_16.1, e_16.2])) ta_nil)) (H.c94 _ _ _ E_r_21) H.g94 rfl rfl rfl rfl ?_)
        refine g_yes (h37.trans (congrArg V.bool hg21)) (g1 45 (jb (decide (r_21 ≥ 0))) (rfl : (_ : V) = (ji r_21)) fun h46 => ?_)
        refine g_yes (h34.trans (congrArg V.bool hg18)) (g2 37 46 (jb (decide (r_21 ≥ 0))) (h37.trans (congrArg V.bool hg21)) h46 fun h47 => ?_)
        refine g2 34 47 (jb (decide (r_21 ≥ 0))) (h34.trans (congrArg V.bool hg18)) h47 fun h48 => ?_
        refine gz [(1, _), (2, _), (10, _), (11, _), (12, _), (48, _)] ⟨h1, h2, h10, h11, h12, h48⟩ ?_
        rintro s ⟨h1, h2, h10, h11, h12, h48⟩
        exact t_f63_j1 H x_1 x_9 (i_IsGraph_l1 F x_1 k) ih (decide (r_21 ≥ 0)) _ ⟨h1, h2, h10, h11, h12, h48⟩ h
      refine g_no (h37.trans (congrArg V.bool hg21)) ?_
      refine g_no (h37.trans (congrArg V.bool hg21)) ?_
      refine g_no (h37.trans (congrArg V.bool hg21)) ?_
      refine g_no (h37.trans (congrArg V.bool hg21)) ?_
      refine g_no (h37.trans (congrArg V.bool hg21)) ?_
      refine g_no (h37.trans (congrArg V.bool hg21)) ?_
      refine g_no (h37.trans (congrArg V.bool hg21)) ?_
      refine g_no (h37.trans (congrArg V.bool hg21)) ?_
      refine g_no (h37.trans (congrArg V.bool hg21)) ?_
      refine g_yes (h34.trans (congrArg V.bool hg18)) (g2 37 46 (jb false) (h37.trans (congrArg V.bool hg21)) (rfl : (_ : V) = (.tup [])) fun h47 => ?_)
      refine g2 34 47 (jb false) (h34.trans (congrArg V.bool hg18)) h47 fun h48 => ?_
      refine gz [(1, _), (2, _), (10, _), (11, _), (12, _), (48, _)] ⟨h1, h2, h10, h11, h12, h48⟩ ?_
      rintro s ⟨h1, h2, h10, h11, h12, h48⟩
      exact t_f63_j1 H x_1 x_9 (i_IsGraph_l1 F x_1 k) ih false _ ⟨h1, h2, h10, h11, h12, h48⟩ h
    refine .exit (.esq (.elp (.ebk (.nsq (.seq (rg (g0 (jb true) fun h2 => ?_)))))))
    refine gq (.nsq (.ret ?_))
    have hr := Option.some.inj h
    subst hr
    exact rrA (res_tmp h2) rfl
def i_IsGraph (F : Nat) (x_1 : (Int × (List (Int × Int)))) : Option Bool :=
  (i_within F x_1.1 0 8).bind fun r_2 =>
  bif (!r_2) then
    some false
  else
    i_IsGraph_l1 F x_1 F 0
theorem t63 (H : H63 D σ F) (x_1 : (Int × (List (Int × Int)))) (s : Nat → V) (hs : Facts [(0, (.agg [(ji x_1.1), (Enc.enc (x_1.2 : List (Int × Int)))]))] s) (h : i_IsGraph F x_1 = some r) : Run D σ (R63 r) (.run A63 []) s := by
  unfold i_IsGraph at h
  have h0 := hs
  refine .seq (run_reg ?_)
  refine e_clr ?_
  refine ez [(0, _), (1, _)] ⟨(keep_clear (pk := [1]) h0 rfl (map_agg (maps_cons mi (maps_cons me maps_nil)))), (gone_clear (pk := [1]) (t := 1) rfl)⟩ ?_
  rintro s ⟨h0, h1⟩
  refine g_box (.agg [(ji x_1.1), (Enc.enc (x_1.2 : List (Int × Int)))]) (rd_of h0 rfl) h1 rfl ?_
  refine g0 (jb false) fun h2 => ?_
  refine gq (.nsq (.seq (.seq (rg (g1 1 (.ref (.bx 1) 0 [0] (ji x_1.1)) (rfl : (_ : V) = (.ref (.bx 1) 0 [] (.agg [(ji x_1.1), (Enc.enc (x_1.2 : List (Int × Int)))]))) fun h5 => ?_)))))
  refine g1 5 (ji x_1.1) h5 fun h6 => ?_
  obtain ⟨r_2, E_r_2, h⟩ := bind_some h
  refine g_call (m := 0) (al := false) (r := (Enc.enc (r_2 : Bool))) [Enc.enc (x_1.1 : Int), Enc.enc (0 : Int), Enc.enc (8 : Int)] (ta_cons (v := (ji x_1.1)) h6 rfl rfl (ta_cons (v := (ji 0)) rfl rfl rfl (ta_cons (v := (ji 8)) rfl rfl rfl ta_nil))) (H.c105 _ _ _ _ E_r_2) H.g105 rfl rfl rfl rfl ?_
  refine g1 7 (jb (!r_2)) (rfl : (_ : V) = (jb r_2)) fun h8 => ?_
  refine gq (.nsq (run_cond (t := (!r_2)) h8 h (fun h => ?_) (fun h => ?_)))
  · refine .seq (rg (g0 (jb false) fun h2 => ?_))
    refine gq (.nsq (.ret ?_))
    have hr := Option.some.inj h
    subst hr
    exact rrA (res_tmp h2) rfl
  refine .skip (.nsq (.seq (.seq (rg (g1 1 (.ref (.bx 1) 0 [1] (Enc.enc (x_1.2 : List (Int × Int)))) (rfl : (_ : V) = (.ref (.bx 1) 0 [] (.agg [(ji x_1.1), (Enc.enc (x_1.2 : List (Int × Int)))]))) fun h9 => ?_)))))
  refine g1 9 (Enc.enc (x_1.2 : List (Int × Int))) h9 fun h10 => ?_
  refine gv (ji (x_1.2.length : Int)) (ev_len (xs := x_1.2) h10) fun h11 => ?_
  refine g0 (ji 0) fun h12 => gq (.nsq (.block (.loop ?_)))
  exact t_f63_l1 H x_1 F 0 _ ⟨rfl, h2, h10, h11, h12⟩ h
end
def e63 (F : Nat) : Ent := ent 63 (fun (x : ((Int × (List (Int × Int))) × Unit)) => i_IsGraph F x.1) (fun (r : Bool) => (Enc.enc (r : Bool))) 0 false []
theorem p63 {F : Nat} {x0 : (Int × (List (Int × Int)))} {r : Bool} (h : i_IsGraph F x0 = some r) : (e63 F).den [Enc.enc x0] = some (Enc.enc (r : Bool)) := ent_put (x0, ()) h
theorem o63 {D : Den} {σ : Sig} {F : Nat} (hF : Fits2 Try.prog D σ) (H : H63 D σ F) : (e63 F).Ok Try.prog := by
  refine ok_of (f := 63) (show unk 63 = 63 from rfl) (fun args r h => ?_) ⟨Try.f63, Try.func63, rfl, rfl⟩
  obtain ⟨⟨x0, _⟩, y, rfl, hy, rfl⟩ := da_open h
  exact contract_run hF (by kernel_rfl) Try.func63 rfl c63 (show 1 ≤ Try.f63.ntmps by decide) (t63 H x0 _ rfl hy)
/- loop.example/g01109/impl.netOf -/
def A65_5 : AC := (.reg [] [((jv 28 (.fld (.t 3) 0 0))), ((jv 29 (.load .p (.t 28)))), ((jv 30 (.idxA (.t 5) (jn 1) 2 1))), ((jv 31 (.load .s (.t 30)))), ((jv 32 (.idx (.t 29) (.t 31) 1))), ((jv 33 (.load .s (.t 32)))), ((jv 34 (.idxA (.t 5) (jn 0) 2 1))), ((jv 35 (.load .s (.t 34)))), ((jv 36 (.bin .shl (jn 1) (.t 35)))), ((jv 37 (.bin .or (.t 33) (.t 36)))), ((jv 38 (.idx (.t 29) (.t 31) 1))), (.mk none none false (.store .s (.t 38) (.t 37)))] [])
def A65_4 : AC := (.seq (.reg [] [((jv 17 (.fld (.t 3) 0 0))), ((jv 18 (.load .p (.t 17)))), ((jv 19 (.idxA (.t 5) (jn 0) 2 1))), ((jv 20 (.load .s (.t 19)))), ((jv 21 (.idx (.t 18) (.t 20) 1))), ((jv 22 (.load .s (.t 21)))), ((jv 23 (.idxA (.t 5) (jn 1) 2 1))), ((jv 24 (.load .s (.t 23)))), ((jv 25 (.bin .shl (jn 1) (.t 24)))), ((jv 26 (.bin .or (.t 22) (.t 25)))), ((jv 27 (.idx (.t 18) (.t 20) 1))), (.mk none none false (.store .s (.t 27) (.t 26)))] []) A65_5)
def A65_6 : AC := (.reg [] [((jv 39 (.bin .add (.t 13) (jn 1)))), (jm 13 39)] [])
def A65_3 : AC := (.seq (.block 1 (.seq (.reg [.clr [5]] [((jv 15 (.idx (.t 11) (.t 13) 2))), ((jv 16 (.load (.ag [.s, .s]) (.t 15)))), (.mk (some 5) none false (.alloc (.agg [(.int .i64 (.ofNat 0)), (.int .i64 (.ofNat 0))]))), (.mk none none false (.store (.ag [.s, .s]) (.t 5) (.t 16)))] []) A65_4)) A65_6)
def A65_2 : AC := (.seq (.cond (.t 14) .skip (.exit 0)) A65_3)
def A65_1 : AC := (.seq (.reg [] [((jv 14 (.bin .lss (.t 13) (.t 12))))] []) A65_2)
def A65_7 : AC := (.seq (.reg [] [((jv 40 (.load (.ag [.p]) (.t 3)))), (.mk none none false (.store (.ag [.p]) (.t 2) (.t 40)))] []) .ret)
def A65_10 : AC := (.block 0 (.loop A65_1))
def A65_9 : AC := (.seq (.seq (.reg [] [((jv 10 (.fld (.t 1) 1 1))), ((jv 11 (.load .p (.t 10)))), ((jv 12 (.len (.t 11)))), ((jv 13 (.mov (jn 0))))] []) A65_10) A65_7)
def A65_8 : AC := (.seq (.reg [.clr [8, 3]] [((jv 6 (.fld (.t 1) 0 0))), ((jv 7 (.load .s (.t 6)))), (.mk (some 8) none false (.mk (.t 7) (.int .i64 (.ofNat 0)) (.int .i64 (.ofNat 0)))), ((jv 9 (.bld (.agg [(.sl .nl .s 0 [])]) [(0, 0, (.t 8))]))), (.mk (some 3) none false (.alloc (.agg [(.sl .nl .s 0 [])]))), (.mk none none false (.store (.ag [.p]) (.t 3) (.t 9)))] []) A65_9)
def A65 : AC := (.seq (.reg [.clr [1, 2]] [(.mk (some 1) none false (.box (.t 0))), (.mk (some 2) none false (.alloc (.agg [(.sl .nl .s 0 [])])))] []) A65_8)
def an65 : List An := [{ id := 0, pre := [.clr [1, 2]], ep := [], lin := [], sp := [] }, { id := 1, pre := [.clr [8, 3]], ep := [], lin := [], sp := [] }, { id := 4, pre := [.clr [5]], ep := [], lin := [], sp := [] }]
theorem c65 : cC Try.prog Try.f65.ntmps an65 (Try.f65.body.getD .skip) = some A65 := by kernel_rfl
structure H65 (D : Den) (σ : Sig) (F : Nat) : Prop where
  mk ::
abbrev R65 (r : (S1 (List Int))) : (Nat → V) → Prop := RR Try.prog [.cell 2 71] 0 false (Enc.enc (r : (S1 (List Int))))
section
variable {D : Den} {σ : Sig} {F : Nat} {r : (S1 (List Int))}
def i_netOf_l1 (F : Nat) (x_1 : (Int × (List (Int × Int))))  : Nat → (List Int) → Int → Option (S1 (List Int))
  | 0, _, _ => none
  | k + 1, x_10, x_11 =>
    bif decide (x_11 < (x_1.2.length : Int)) then
      (idx x_1.2 x_11).bind fun e_19 =>
      (idx x_10 e_19.1).bind fun e_20 =>
      (shlI .i64 1 e_19.2).bind fun q_21 =>
      (idx x_10 e_19.1).bind fun e_22 =>
      (idx (x_10.set e_19.1.toNat (ior .i64 e_20 q_21)) e_19.2).bind fun e_23 =>
      (shlI .i64 1 e_19.1).bind fun q_24 =>
      (idx (x_10.set e_19.1.toNat (ior .i64 e_20 q_21)) e_19.2).bind fun e_25 =>
      (i_netOf_l1 F x_1 k) ((x_10.set e_19.1.toNat (ior .i64 e_20 q_21)).set e_19.2.toNat (ior .i64 e_23 q_24)) (w64 (x_11 + 1))
    else
      some (S1.mk x_10)
theorem t_f65_l1 (H : H65 D σ F) (x_1 : (Int × (List (Int × Int))))  : ∀ (k : Nat) (x_10 : (List Int)) (x_11 : Int) (s : Nat → V), Facts [(2, (.ref (.bx 2) 0 [] (.agg [(.sl .nl (Enc.shp Int) 0 [])]))), (3, (.ref (.bx 3) 0 [] (.agg [(oI 8 [] (.of x_10))]))), (11, (Enc.enc (x_1.2 : List (Int × Int)))), (12, (ji (x_1.2.length : Int))), (13, (ji x_11))] s → i_netOf_l1 F x_1 k x_10 x_11 = some r → Run D σ (R65 r) (.run A65_1 [.lp A65_1, .bk 0, .sq A65_7]) s := by
  intro k
  induction k with
  | zero => intro x_10 x_11 s _ h; exact nomatch (h : (none : Option _) = some r)
  | succ k ih =>
    intro x_10 x_11 s hs h
    rw [i_netOf_l1] at h
    obtain ⟨h2, h3, h11, h12, h13⟩ := hs
    refine .seq (rg (g2 13 12 (jb (decide (x_11 < (x_1.2.length : Int)))) h13 h12 fun h14 => ?_))
    refine gq (.nsq (.seq (run_cond (t := decide (x_11 < (x_1.2.length : Int))) h14 h (fun h => ?_) (fun h => ?_))))
    · refine .skip (.nsq (.seq (.block (.seq (run_reg ?_)))))
      refine e_clr ?_
      refine ez [(2, _), (3, _), (5, _), (11, _), (12, _), (13, _)] ⟨(keep_clear (pk := [5]) h2 rfl (map_bx rfl (map_agg (maps_cons rfl maps_nil)))), (keep_clear (pk := [5]) h3 rfl (map_bx rfl (map_agg (maps_cons (map_encO (r := 8) (p := []) rfl rfl) maps_nil)))), (gone_clear (pk := [5]) (t := 5) rfl), (keep_clear (pk := [5]) h11 rfl me), (keep_clear (pk := [5]) h12 rfl mi), (keep_clear (pk := [5]) h13 rfl mi)⟩ ?_
      rintro s ⟨h2, h3, h5, h11, h12, h13⟩
      obtain ⟨e_19, E_e_19, h⟩ := bind_some h
      refine gv (.ref .sh 0 [] (.agg [(ji e_19.1), (ji e_19.2)])) (ev_idx (t := .sh) (lo := 0) (xs := x_1.2) h11 h13 E_e_19 rfl rfl) fun h15 => ?_
      refine g1 15 (.agg [(ji e_19.1), (ji e_19.2)]) h15 fun h16 => ?_
      refine g_alloc h5 ?_
      refine g_store (.agg [(ji e_19.1), (ji e_19.2)]) (rd_of rfl rfl) (rd_of h16 rfl) (by refine ⟨by decide, by decide, rfl, rfl, rfl, ?_⟩; first | rfl | (simp [V.toks, V.tokss, Enc.toks_enc]; done) | simp [V.toks, V.tokss, Enc.toks_enc, tok_memP]) ?_
      refine gz [(2, (.ref (.bx 2) 0 [] (.agg [(.sl .nl (Enc.shp Int) 0 [])]))), (3, (.ref (.bx 3) 0 [] (.agg [(oI 8 [] (.of x_10))]))), (5, (.ref (.bx 5) 0 [] (.agg [(ji e_19.1), (ji e_19.2)]))), (11, (Enc.enc (x_1.2 : List (Int × Int)))), (12, (ji (x_1.2.length : Int))), (13, (ji x_11))] ⟨(keep_mut h2 (mut_ref_ne rfl rfl (mut_agg (muts_cons rfl rfl)))), (keep_mut h3 (mut_ref_ne rfl rfl (mut_agg (muts_cons (mut_own_ne rfl rfl) rfl)))), (keep_mut rfl rfl), (keep_mut h11 (Enc.mut_enc _ _ _ _ (x_1.2 : List (Int × Int)))), (keep_mut h12 rfl), (keep_mut h13 rfl)⟩ ?_
      rintro s ⟨h2, h3, h5, h11, h12, h13⟩
      refine .nsq (.seq (rg (g1 3 (.ref (.bx 3) 0 [0] (oI 8 [] (.of x_10))) h3 fun h17 => ?_)))
      refine g1 17 (oI 8 [] (.of x_10)) h17 fun h18 => ?_
      refine g1 5 (.ref (.bx 5) 0 [0] (ji e_19.1)) h5 fun h19 => ?_
      refine g1 19 (ji e_19.1) h19 fun h20 => ?_
      obtain ⟨e_20, E_e_20, h⟩ := bind_some h
      refine gv (.ref (.at 8 []) e_19.1.toNat [] (ji e_20)) (ev_idxO (o := (.of x_10)) h18 h20 E_e_20 rfl) fun h21 => ?_
      refine g1 21 (ji e_20) h21 fun h22 => ?_
      refine g1 5 (.ref (.bx 5) 0 [1] (ji e_19.2)) h5 fun h23 => ?_
      refine g1 23 (ji e_19.2) h23 fun h24 => ?_
      obtain ⟨q_21, E_q_21, h⟩ := bind_some h
      refine gv (ji q_21) (ev_shl rfl h24 E_q_21) fun h25 => ?_
      refine g2 22 25 (ji (ior .i64 e_20 q_21)) h22 h25 fun h26 => ?_
      obtain ⟨e_22, E_e_22, h⟩ := bind_some h
      refine gv (.ref (.at 8 []) e_19.1.toNat [] (ji e_22)) (ev_idxO (o := (.of x_10)) h18 h20 E_e_22 rfl) fun h27 => ?_
      refine g_store (ji (ior .i64 e_20 q_21)) (rd_of h27 rfl) (rd_of h26 rfl) (by refine ⟨by decide, by decide, rfl, rfl, rfl, ?_⟩; first | rfl | (simp [V.toks, V.tokss, Enc.toks_enc]; done) | simp [V.toks, V.tokss, Enc.toks_enc, tok_memP]) ?_
      refine gz [(2, (.ref (.bx 2) 0 [] (.agg [(.sl .nl (Enc.shp Int) 0 [])]))), (3, (.ref (.bx 3) 0 [] (.agg [(oI 8 [] (.of (x_10.set e_19.1.toNat (ior .i64 e_20 q_21))))]))), (5, (.ref (.bx 5) 0 [] (.agg [(ji e_19.1), (ji e_19.2)]))), (11, (Enc.enc (x_1.2 : List (Int × Int)))), (12, (ji (x_1.2.length : Int))), (13, (ji x_11))] ⟨(keep_mut h2 (mut_ref_ne rfl rfl (mut_agg (muts_cons rfl rfl)))), (keep_mut h3 (mut_ref_ne rfl rfl (mut_agg (muts_cons mut_own rfl)))), (keep_mut h5 rfl), (keep_mut h11 (Enc.mut_enc _ _ _ _ (x_1.2 : List (Int × Int)))), (keep_mut h12 rfl), (keep_mut h13 rfl)⟩ ?_
      rintro s ⟨h2, h3, h5, h11, h12, h13⟩
      refine .nsq (rg (g1 3 (.ref (.bx 3) 0 [0] (oI 8 [] (.of (x_10.set e_19.1.toNat (ior .i64 e_20 q_21))))) h3 fun h28 => ?_))
      refine g1 28 (oI 8 [] (.of (x_10.set e_19.1.toNat (ior .i64 e_20 q_21)))) h28 fun h29 => ?_
      refine g1 5 (.ref (.bx 5) 0 [1] (ji e_19.2)) h5 fun h30 => ?_
      refine g1 30 (ji e_19.2) h30 fun h31 => ?_
      obtain ⟨e_23, E_e_23, h⟩ := bind_some h
      refine gv (.ref (.at 8 []) e_19.2.toNat [] (ji e_23)) (ev_idxO (o := (.of (x_10.set e_19.1.toNat (ior .i64 e_20 q_21)))) h29 h31 E_e_23 rfl) fun h32 => ?_
      refine g1 32 (ji e_23) h32 fun h33 => ?_
      refine g1 5 (.ref (.bx 5) 0 [0] (ji e_19.1)) h5 fun h34 => ?_
      refine g1 34 (ji e_19.1) h34 fun h35 => ?_
      obtain ⟨q_24, E_q_24, h⟩ := bind_some h
      refine gv (ji q_24) (ev_shl rfl h35 E_q_24) fun h36 => ?_
      refine g2 33 36 (ji (ior .i64 e_23 q_24)) h33 h36 fun h37 => ?_
      obtain ⟨e_25, E_e_25, h⟩ := bind_some h
      refine gv (.ref (.at 8 []) e_19.2.toNat [] (ji e_25)) (ev_idxO (o := (.of (x_10.set e_19.1.toNat (ior .i64 e_20 q_21)))) h29 h31 E_e_25 rfl) fun h38 => ?_
      refine g_store (ji (ior .i64 e_23 q_24)) (rd_of h38 rfl) (rd_of h37 rfl) (by refine ⟨by decide, by decide, rfl, rfl, rfl, ?_⟩; first | rfl | (simp [V.toks, V.tokss, Enc.toks_enc]; done) | simp [V.toks, V.tokss, Enc.toks_enc, tok_memP]) ?_
      refine gz [(2, (.ref (.bx 2) 0 [] (.agg [(.sl .nl (Enc.shp Int) 0 [])]))), (3, (.ref (.bx 3) 0 [] (.agg [(oI 8 [] (.of ((x_10.set e_19.1.toNat (ior .i64 e_20 q_21)).set e_19.2.toNat (ior .i64 e_23 q_24))))]))), (11, (Enc.enc (x_1.2 : List (Int × Int)))), (12, (ji (x_1.2.length : Int))), (13, (ji x_11))] ⟨(keep_mut h2 (mut_ref_ne rfl rfl (mut_agg (muts_cons rfl rfl)))), (keep_mut h3 (mut_ref_ne rfl rfl (mut_agg (muts_cons mut_own rfl)))), (keep_mut h11 (Enc.mut_enc _ _ _ _ (x_1.2 : List (Int × Int)))), (keep_mut h12 rfl), (keep_mut h13 rfl)⟩ ?_
      rintro s ⟨h2, h3, h11, h12, h13⟩
      refine .nbk (.nsq (rg (g1 13 (ji (w64 (x_11 + 1))) h13 fun h39 => ?_)))
      refine gm h39 fun h13 => gq (.nlp ?_)
      exact ih ((x_10.set e_19.1.toNat (ior .i64 e_20 q_21)).set e_19.2.toNat (ior .i64 e_23 q_24)) (w64 (x_11 + 1)) _ ⟨h2, h3, h11, h12, h13⟩ h
    refine .exit (.esq (.elp (.ebk (.nsq (.seq (rg (g1 3 (.agg [(oI 8 [] (.of x_10))]) h3 fun h40 => ?_)))))))
    refine g_store (.agg [(oI 8 [] (.of x_10))]) (rd_of h2 rfl) (rd_of h40 rfl) (by refine ⟨by decide, by decide, rfl, rfl, rfl, ?_⟩; first | rfl | (simp [V.toks, V.tokss, Enc.toks_enc]; done) | simp [V.toks, V.tokss, Enc.toks_enc, tok_memP]) ?_
    refine gz [(2, (.ref (.bx 2) 0 [] (.agg [(oI 8 [] (.of x_10))])))] (keep_mut h2 rfl) ?_
    rintro s h2
    refine .nsq (.ret ?_)
    have hr := Option.some.inj h
    subst hr
    exact rrA (res_cell h2 (by kernel_rfl)) (fin_retF (fin_agg (fins_cons (fin_own (o := .of x_10)) fins_nil)) (mine_agg (mines_cons (mine_own rfl) mines_nil)))
def i_netOf (F : Nat) (x_1 : (Int × (List (Int × Int)))) : Option (S1 (List Int)) :=
  (mkN x_1.1 (0 : Int)).bind fun mk_2 =>
  i_netOf_l1 F x_1 F mk_2 0
theorem t65 (H : H65 D σ F) (x_1 : (Int × (List (Int × Int)))) (s : Nat → V) (hs : Facts [(0, (.agg [(ji x_1.1), (Enc.enc (x_1.2 : List (Int × Int)))]))] s) (h : i_netOf F x_1 = some r) : Run D σ (R65 r) (.run A65 []) s := by
  unfold i_netOf at h
  have h0 := hs
  refine .seq (run_reg ?_)
  refine e_clr ?_
  refine ez [(0, _), (1, _), (2, _)] ⟨(keep_clear (pk := [1, 2]) h0 rfl (map_agg (maps_cons mi (maps_cons me maps_nil)))), (gone_clear (pk := [1, 2]) (t := 1) rfl), (gone_clear (pk := [1, 2]) (t := 2) rfl)⟩ ?_
  rintro s ⟨h0, h1, h2⟩
  refine g_box (.agg [(ji x_1.1), (Enc.enc (x_1.2 : List (Int × Int)))]) (rd_of h0 rfl) h1 rfl ?_
  refine g_alloc h2 ?_
  refine gq (.nsq (.seq (run_reg ?_)))
  refine e_clr ?_
  refine ez [(1, _), (2, _), (3, _), (8, _)] ⟨(keep_clear (pk := [8, 3]) rfl rfl (map_bx rfl (map_agg (maps_cons mi (maps_cons me maps_nil))))), (keep_clear (pk := [8, 3]) rfl rfl (map_bx rfl (map_agg (maps_cons rfl maps_nil)))), (gone_clear (pk := [8, 3]) (t := 3) rfl), (gone_clear (pk := [8, 3]) (t := 8) rfl)⟩ ?_
  rintro s ⟨h1, h2, h3, h8⟩
  refine g1 1 (.ref (.bx 1) 0 [0] (ji x_1.1)) h1 fun h6 => ?_
  refine g1 6 (ji x_1.1) h6 fun h7 => ?_
  obtain ⟨mk_2, E_mk_2, h⟩ := bind_some h
  refine g_mk (0 : Int) h7 rfl h8 E_mk_2 ?_
  refine g1 8 (.agg [(oI 8 [] (.of mk_2))]) (rfl : (_ : V) = (oI 8 [] (.of mk_2))) fun h9 => ?_
  refine g_alloc h3 ?_
  refine g_store (.agg [(oI 8 [] (.of mk_2))]) (rd_of rfl rfl) (rd_of h9 rfl) (by refine ⟨by decide, by decide, rfl, rfl, rfl, ?_⟩; first | rfl | (simp [V.toks, V.tokss, Enc.toks_enc]; done) | simp [V.toks, V.tokss, Enc.toks_enc, tok_memP]) ?_
  refine gz [(1, (.ref (.bx 1) 0 [] (.agg [(ji x_1.1), (Enc.enc (x_1.2 : List (Int × Int)))]))), (2, (.ref (.bx 2) 0 [] (.agg [(.sl .nl (Enc.shp Int) 0 [])]))), (3, (.ref (.bx 3) 0 [] (.agg [(oI 8 [] (.of mk_2))])))] ⟨(keep_mut h1 (mut_ref_ne rfl rfl (mut_agg (muts_cons rfl (muts_cons (Enc.mut_enc _ _ _ _ (x_1.2 : List (Int × Int))) rfl))))), (keep_mut h2 (mut_ref_ne rfl rfl (mut_agg (muts_cons rfl rfl)))), (keep_mut rfl rfl)⟩ ?_
  rintro s ⟨h1, h2, h3⟩
  refine .nsq (.seq (.seq (rg (g1 1 (.ref (.bx 1) 0 [1] (Enc.enc (x_1.2 : List (Int × Int)))) h1 fun h10 => ?_))))
  refine g1 10 (Enc.enc (x_1.2 : List (Int × Int))) h10 fun h11 => ?_
  refine gv (ji (x_1.2.length : Int)) (ev_len (xs := x_1.2) h11) fun h12 => ?_
  refine g0 (ji 0) fun h13 => gq (.nsq (.block (.loop ?_)))
  exact t_f65_l1 H x_1 F mk_2 0 _ ⟨h2, h3, h11, h12, h13⟩ h
end
def e65 (F : Nat) : Ent := ent 65 (fun (x : ((Int × (List (Int × Int))) × Unit)) => i_netOf F x.1) (fun (r : (S1 (List Int))) => (Enc.enc (r : (S1 (List Int))))) 0 false []
theorem p65 {F : Nat} {x0 : (Int × (List (Int × Int)))} {r : (S1 (List Int))} (h : i_netOf F x0 = some r) : (e65 F).den [Enc.enc x0] = some (Enc.enc (r : (S1 (List Int)))) := ent_put (x0, ()) h
theorem o65 {D : Den} {σ : Sig} {F : Nat} (hF : Fits2 Try.prog D σ) (H : H65 D σ F) : (e65 F).Ok Try.prog := by
  refine ok_of (f := 65) (show unk 65 = 65 from rfl) (fun args r h => ?_) ⟨Try.f65, Try.func65, rfl, rfl⟩
  obtain ⟨⟨x0, _⟩, y, rfl, hy, rfl⟩ := da_open h
  exact contract_run hF (by kernel_rfl) Try.func65 rfl c65 (show 1 ≤ Try.f65.ntmps by decide) (t65 H x0 _ rfl hy)
/- (loop.example/g01109/impl.net).all -/
def A113_1 : AC := (.seq (.reg [] [((jv 3 (.fld (.t 1) 0 0))), ((jv 4 (.load .p (.t 3)))), ((jv 5 (.len (.t 4)))), ((jv 6 (.bin .shl (jn 1) (.t 5)))), ((jv 7 (.bin .sub (.t 6) (jn 1)))), (jm 2 7)] []) .ret)
def A113 : AC := (.seq (.reg [.clr [1]] [(.mk (some 1) none false (.box (.t 0))), ((jv 2 (.mov (jn 0))))] []) A113_1)
def an113 : List An := [{ id := 0, pre := [.clr [1]], ep := [], lin := [], sp := [] }]
theorem c113 : cC Try.prog Try.f113.ntmps an113 (Try.f113.body.getD .skip) = some A113 := by kernel_rfl
structure H113 (D : Den) (σ : Sig) (F : Nat) : Prop where
  mk ::
abbrev R113 (r : Int) : (Nat → V) → Prop := RR Try.prog [.tmp 2] 0 false (Enc.enc (r : Int))
section
variable {D : Den} {σ : Sig} {F : Nat} {r : Int}
def i_net_all (F : Nat) (x_1 : (S1 (List Int))) : Option Int :=
  (shlI .i64 1 (x_1.a.length : Int)).bind fun q_2 =>
  some (w64 (q_2 - 1))
theorem t113 (H : H113 D σ F) (x_1 : (S1 (List Int))) (s : Nat → V) (hs : Facts [(0, (.agg [(eL x_1.a)]))] s) (h : i_net_all F x_1 = some r) : Run D σ (R113 r) (.run A113 []) s := by
  unfold i_net_all at h
  have h0 := hs
  refine .seq (run_reg ?_)
  refine e_clr ?_
  refine ez [(0, _), (1, _)] ⟨(keep_clear (pk := [1]) h0 rfl (map_agg (maps_cons me maps_nil))), (gone_clear (pk := [1]) (t := 1) rfl)⟩ ?_
  rintro s ⟨h0, h1⟩
  refine g_box (.agg [(eL x_1.a)]) (rd_of h0 rfl) h1 rfl ?_
  refine g0 (ji 0) fun h2 => gq (.nsq (.seq (rg (g1 1 (.ref (.bx 1) 0 [0] (eL x_1.a)) (rfl : (_ : V) = (.ref (.bx 1) 0 [] (.agg [(eL x_1.a)]))) fun h3 => ?_))))
  refine g1 3 (eL x_1.a) h3 fun h4 => ?_
  refine gv (ji (x_1.a.length : Int)) (ev_len (xs := x_1.a) h4) fun h5 => ?_
  obtain ⟨q_2, E_q_2, h⟩ := bind_some h
  refine gv (ji q_2) (ev_shl rfl h5 E_q_2) fun h6 => ?_
  refine g1 6 (ji (w64 (q_2 - 1))) h6 fun h7 => ?_
  refine gm h7 fun h2 => gq (.nsq (.ret ?_))
  have hr := Option.some.inj h
  subst hr
  exact rrA (res_tmp h2) rfl
end
def e113 (F : Nat) : Ent := ent 113 (fun (x : ((S1 (List Int)) × Unit)) => i_net_all F x.1) (fun (r : Int) => (Enc.enc (r : Int))) 0 false []
theorem p113 {F : Nat} {x0 : (S1 (List Int))} {r : Int} (h : i_net_all F x0 = some r) : (e113 F).den [Enc.enc x0] = some (Enc.enc (r : Int)) := ent_put (x0, ()) h
theorem o113 {D : Den} {σ : Sig} {F : Nat} (hF : Fits2 Try.prog D σ) (H : H113 D σ F) : (e113 F).Ok Try.prog := by
  refine ok_of (f := 113) (show unk 113 = 113 from rfl) (fun args r h => ?_) ⟨Try.f113, Try.func113, rfl, rfl⟩
  obtain ⟨⟨x0, _⟩, y, rfl, hy, rfl⟩ := da_open h
  exact contract_run hF (by kernel_rfl) Try.func113 rfl c113 (show 1 ≤ Try.f113.ntmps by decide) (t113 H x0 _ rfl hy)
/- (loop.example/g01109/impl.net).around -/
def A175_5 : AC := (.cond (.t 21) (.reg [] [(jm 22 5), (jm 23 7), ((jv 24 (.bin .or (.t 22) (.t 23)))), (jm 5 24)] []) .skip)
def A175_4 : AC := (.seq (.reg [] [(jm 17 1), (jm 18 6), ((jv 19 (.bin .shr (.t 17) (.t 18)))), ((jv 20 (.bin .and (.t 19) (jn 1)))), ((jv 21 (.bin .eql (.t 20) (jn 1))))] []) A175_5)
def A175_6 : AC := (.reg [] [((jv 25 (.bin .add (.t 12) (jn 1)))), (jm 12 25)] [])
def A175_3 : AC := (.seq (.block 1 (.seq (.reg [] [(jm 14 12), ((jv 15 (.idx (.t 10) (.t 12) 1))), ((jv 16 (.load .s (.t 15)))), (jm 6 14), (jm 7 16)] []) A175_4)) A175_6)
def A175_2 : AC := (.seq (.cond (.t 13) .skip (.exit 0)) A175_3)
def A175_1 : AC := (.seq (.reg [] [((jv 13 (.bin .lss (.t 12) (.t 11))))] []) A175_2)
def A175_7 : AC := (.seq (.reg [] [(jm 26 5), (jm 4 26)] []) .ret)
def A175_10 : AC := (.block 0 (.loop A175_1))
def A175_9 : AC := (.seq (.seq (.reg [] [((jv 9 (.fld (.t 2) 0 0))), ((jv 10 (.load .p (.t 9)))), ((jv 11 (.len (.t 10)))), ((jv 12 (.mov (jn 0))))] []) A175_10) A175_7)
def A175_8 : AC := (.seq (.reg [] [(jm 8 1), (jm 5 8)] []) A175_9)
def A175 : AC := (.seq (.reg [.clr [2]] [(.mk (some 2) none false (.box (.t 0))), ((jv 4 (.mov (jn 0))))] []) A175_8)
def an175 : List An := [{ id := 0, pre := [.clr [2]], ep := [], lin := [], sp := [] }]
theorem c175 : cC Try.prog Try.f175.ntmps an175 (Try.f175.body.getD .skip) = some A175 := by kernel_rfl
structure H175 (D : Den) (σ : Sig) (F : Nat) : Prop where
  mk ::
abbrev R175 (r : Int) : (Nat → V) → Prop := RR Try.prog [.tmp 4] 0 false (Enc.enc (r : Int))
section
variable {D : Den} {σ : Sig} {F : Nat} {r : Int}
def i_net_around_j1 (F : Nat) (x_2 : Int) (x_1 : (S1 (List Int))) (x_7 : Int) (c1 : Int → Int → Option Int) (x_13 : Int) : Option Int :=
  c1 x_13 (w64 (x_7 + 1))
theorem t_f175_j1 (H : H175 D σ F) (x_2 : Int) (x_1 : (S1 (List Int))) (x_7 : Int) (c1 : Int → Int → Option Int) (Hc1 : ∀ (x_6 : Int) (x_7 : Int) (s : Nat → V), Facts [(1, (ji x_2)), (4, (ji 0)), (5, (ji x_6)), (10, (eL x_1.a)), (11, (ji (x_1.a.length : Int))), (12, (ji x_7))] s → c1 x_6 x_7 = some r → Run D σ (R175 r) (.run A175_1 [.lp A175_1, .bk 0, .sq A175_7]) s) (x_13 : Int) (s : Nat → V) (hs : Facts [(1, (ji x_2)), (4, (ji 0)), (5, (ji x_13)), (10, (eL x_1.a)), (11, (ji (x_1.a.length : Int))), (12, (ji x_7))] s) (h : i_net_around_j1 F x_2 x_1 x_7 c1 x_13 = some r) : Run D σ (R175 r) (.nrm [.bk 1, .sq A175_6, .lp A175_1, .bk 0, .sq A175_7]) s := by
  unfold i_net_around_j1 at h
  obtain ⟨h1, h4, h5, h10, h11, h12⟩ := hs
  refine .nbk (.nsq (rg (g1 12 (ji (w64 (x_7 + 1))) h12 fun h25 => ?_)))
  refine gm h25 fun h12 => gq (.nlp ?_)
  exact Hc1 x_13 (w64 (x_7 + 1)) _ ⟨h1, h4, h5, h10, h11, h12⟩ h
def i_net_around_l1 (F : Nat) (x_2 : Int) (x_1 : (S1 (List Int)))  : Nat → Int → Int → Option Int
  | 0, _, _ => none
  | k + 1, x_6, x_7 =>
    bif decide (x_7 < (x_1.a.length : Int)) then
      (idx x_1.a x_7).bind fun e_11 =>
      (shrI .i64 x_2 x_7).bind fun q_12 =>
      bif ((iand .i64 q_12 1) == 1) then
        i_net_around_j1 F x_2 x_1 x_7 (i_net_around_l1 F x_2 x_1 k) (ior .i64 x_6 e_11)
      else
        i_net_around_j1 F x_2 x_1 x_7 (i_net_around_l1 F x_2 x_1 k) x_6
    else
      some x_6
theorem t_f175_l1 (H : H175 D σ F) (x_2 : Int) (x_1 : (S1 (List Int)))  : ∀ (k : Nat) (x_6 : Int) (x_7 : Int) (s : Nat → V), Facts [(1, (ji x_2)), (4, (ji 0)), (5, (ji x_6)), (10, (eL x_1.a)), (11, (ji (x_1.a.length : Int))), (12, (ji x_7))] s → i_net_around_l1 F x_2 x_1 k x_6 x_7 = some r → Run D σ (R175 r) (.run A175_1 [.lp A175_1, .bk 0, .sq A175_7]) s := by
  intro k
  induction k with
  | zero => intro x_6 x_7 s _ h; exact nomatch (h : (none : Option _) = some r)
  | succ k ih =>
    intro x_6 x_7 s hs h
    rw [i_net_around_l1] at h
    obtain ⟨h1, h4, h5, h10, h11, h12⟩ := hs
    refine .seq (rg (g2 12 11 (jb (decide (x_7 < (x_1.a.length : Int)))) h12 h11 fun h13 => ?_))
    refine gq (.nsq (.seq (run_cond (t := decide (x_7 < (x_1.a.length : Int))) h13 h (fun h => ?_) (fun h => ?_))))
    · refine .skip (.nsq (.seq (.block (.seq (rg (gm h12 fun h14 => ?_))))))
      obtain ⟨e_11, E_e_11, h⟩ := bind_some h
      refine gv (.ref .sh 0 [] (ji e_11)) (ev_idx (t := .sh) (lo := 0) (xs := x_1.a) h10 h12 E_e_11 rfl rfl) fun h15 => ?_
      refine g1 15 (ji e_11) h15 fun h16 => ?_
      refine gm h14 fun h6 => gm h16 fun h7 => gq (.nsq (.seq (rg (gm h1 fun h17 => gm h6 fun h18 => ?_))))
      obtain ⟨q_12, E_q_12, h⟩ := bind_some h
      refine gv (ji q_12) (ev_shr h17 h18 E_q_12) fun h19 => ?_
      refine g1 19 (ji (iand .i64 q_12 1)) h19 fun h20 => ?_
      refine g1 20 (jb ((iand .i64 q_12 1) == 1)) h20 fun h21 => ?_
      refine gq (.nsq (run_cond (t := ((iand .i64 q_12 1) == 1)) h21 h (fun h => ?_) (fun h => ?_)))
      · refine rg (gm h5 fun h22 => gm h7 fun h23 => g2 22 23 (ji (ior .i64 x_6 e_11)) h22 h23 fun h24 => ?_)
        refine gm h24 fun h5 => gq ?_
        exact t_f175_j1 H x_2 x_1 x_7 (i_net_around_l1 F x_2 x_1 k) ih (ior .i64 x_6 e_11) _ ⟨h1, h4, h5, h10, h11, h12⟩ h
      refine .skip ?_
      exact t_f175_j1 H x_2 x_1 x_7 (i_net_around_l1 F x_2 x_1 k) ih x_6 _ ⟨h1, h4, h5, h10, h11, h12⟩ h
    refine .exit (.esq (.elp (.ebk (.nsq (.seq (rg (gm h5 fun h26 => gm h26 fun h4 => gq (.nsq (.ret ?_)))))))))
    have hr := Option.some.inj h
    subst hr
    exact rrA (res_tmp h4) rfl
def i_net_around (F : Nat) (x_1 : (S1 (List Int))) (x_2 : Int) : Option Int :=
  i_net_around_l1 F x_2 x_1 F x_2 0
theorem t175 (H : H175 D σ F) (x_1 : (S1 (List Int))) (x_2 : Int) (s : Nat → V) (hs : Facts [(0, (.agg [(eL x_1.a)])), (1, (ji x_2))] s) (h : i_net_around F x_1 x_2 = some r) : Run D σ (R175 r) (.run A175 []) s := by
  unfold i_net_around at h
  obtain ⟨h0, h1⟩ := hs
  refine .seq (run_reg ?_)
  refine e_clr ?_
  refine ez [(0, _), (1, _), (2, _)] ⟨(keep_clear (pk := [2]) h0 rfl (map_agg (maps_cons me maps_nil))), (keep_clear (pk := [2]) h1 rfl mi), (gone_clear (pk := [2]) (t := 2) rfl)⟩ ?_
  rintro s ⟨h0, h1, h2⟩
  refine g_box (.agg [(eL x_1.a)]) (rd_of h0 rfl) h2 rfl ?_
  refine g0 (ji 0) fun h4 => gq (.nsq (.seq (rg (gm h1 fun h8 => gm h8 fun h5 => gq (.nsq (.seq (.seq (rg (g1 2 (.ref (.bx 2) 0 [0] (eL x_1.a)) (rfl : (_ : V) = (.ref (.bx 2) 0 [] (.agg [(eL x_1.a)]))) fun h9 => ?_)))))))))
  refine g1 9 (eL x_1.a) h9 fun h10 => ?_
  refine gv (ji (x_1.a.length : Int)) (ev_len (xs := x_1.a) h10) fun h11 => ?_
  refine g0 (ji 0) fun h12 => gq (.nsq (.block (.loop ?_)))
  exact t_f175_l1 H x_2 x_1 F x_2 0 _ ⟨h1, h4, h5, h10, h11, h12⟩ h
end
def e175 (F : Nat) : Ent := ent 175 (fun (x : ((S1 (List Int)) × Int × Unit)) => i_net_around F x.1 x.2.1) (fun (r : Int) => (Enc.enc (r : Int))) 0 false []
theorem p175 {F : Nat} {x0 : (S1 (List Int))} {x1 : Int} {r : Int} (h : i_net_around F x0 x1 = some r) : (e175 F).den [Enc.enc x0, Enc.enc x1] = some (Enc.enc (r : Int)) := ent_put (x0, x1, ()) h
theorem o175 {D : Den} {σ : Sig} {F : Nat} (hF : Fits2 Try.prog D σ) (H : H175 D σ F) : (e175 F).Ok Try.prog := by
  refine ok_of (f := 175) (show unk 175 = 175 from rfl) (fun args r h => ?_) ⟨Try.f175, Try.func175, rfl, rfl⟩
  obtain ⟨⟨x0, x1, _⟩, y, rfl, hy, rfl⟩ := da_open h
  exact contract_run hF (by kernel_rfl) Try.func175 rfl c175 (show 2 ≤ Try.f175.ntmps by decide) (t175 H x0 x1 _ ⟨rfl, rfl⟩ hy)
/- (loop.example/g01109/impl.net).parts -/
def A142_2 : AC := (.cond (.t 9) .skip (.exit 0))
def A142_7 : AC := (.cond (.t 21) (.exit 2) .skip)
def A142_8 : AC := (.reg [] [(jm 22 7), (jm 6 22)] [])
def A142_6 : AC := (.seq (.seq (.reg [] [(jm 19 7), (jm 20 6), ((jv 21 (.bin .eql (.t 19) (.t 20))))] []) A142_7) A142_8)
def A142_5 : AC := (.block 3 (.seq (.reg [] [((jv 14 (.load (.ag [.p]) (.t 2)))), (jm 15 6), (.mk (some 16) none false (.call (.k (.fn 175 [] [])) [(.t 14), (.t 15)])), (jm 17 1), ((jv 18 (.bin .and (.t 16) (.t 17)))), (jm 7 18)] []) A142_6))
def A142_10 : AC := (.reg [] [(jm 27 1), (jm 28 6), ((jv 29 (.bin .andNot (.t 27) (.t 28)))), (jm 1 29)] [])
def A142_9 : AC := (.seq (.reg [.clr [25, 26]] [(jm 23 5), (jm 24 6), (.mk (some 25) none false (.lit (.int .i64 (.ofNat 0)) 1 [(0, 0, (.t 24))])), (.mk (some 26) none false (.app .s (.t 23) (.t 25))), (jm 5 26)] [.home 26 5]) A142_10)
def A142_4 : AC := (.seq (.block 2 (.loop A142_5)) A142_9)
def A142_3 : AC := (.block 1 (.seq (.reg [] [(jm 10 1), (jm 11 1), ((jv 12 (.un .neg (.t 11)))), ((jv 13 (.bin .and (.t 10) (.t 12)))), (jm 6 13)] []) A142_4))
def A142_1 : AC := (.seq (.seq (.reg [] [(jm 8 1), ((jv 9 (.bin .neq (.t 8) (jn 0))))] []) A142_2) A142_3)
def A142_11 : AC := (.seq (.reg [] [(jm 30 5), (jm 4 30)] [.home 5 4]) .ret)
def A142_13 : AC := (.seq (.block 0 (.loop A142_1)) A142_11)
def A142_12 : AC := (.seq (.reg [] [((jv 5 (.mov (.k (.sl .nl .s 0 [])))))] []) A142_13)
def A142 : AC := (.seq (.reg [.clr [2]] [(.mk (some 2) none false (.box (.t 0))), ((jv 4 (.mov (.k (.sl .nl .s 0 [])))))] []) A142_12)
def an142 : List An := [{ id := 0, pre := [.clr [2]], ep := [], lin := [], sp := [] }, { id := 7, pre := [.clr [25, 26]], ep := [.home 26 5], lin := [], sp := [] }, { id := 9, pre := [], ep := [.home 5 4], lin := [], sp := [] }]
theorem c142 : cC Try.prog Try.f142.ntmps an142 (Try.f142.body.getD .skip) = some A142 := by kernel_rfl
structure H142 (D : Den) (σ : Sig) (F : Nat) : Prop where
  c175 : ∀ (x0 : (S1 (List Int))) (x1 : Int) r, i_net_around F x0 x1 = some r → D 175 [Enc.enc x0, Enc.enc x1] = some (Enc.enc (r : Int))
  g175 : σ 175 = some (0, false)
abbrev R142 (r : (List Int)) : (Nat → V) → Prop := RR Try.prog [.tmp 4] 0 false (Enc.enc (r : (List Int)))
section
variable {D : Den} {σ : Sig} {F : Nat} {r : (List Int)}
def i_net_parts_l1 (F : Nat) (x_8 : Int) (x_1 : (S1 (List Int))) (x_9 : (NL Int)) (c1 : Int → (NL Int) → Option (List Int)) : Nat → Int → Option (List Int)
  | 0, _ => none
  | k + 1, x_16 =>
    (i_net_around F x_1 x_16).bind fun r_18 =>
    bif ((iand .i64 r_18 x_8) == x_16) then
      (appL x_9.list [x_16]).bind fun ap_19 =>
      c1 (iandNot .i64 x_8 x_16) (.of ap_19)
    else
      (i_net_parts_l1 F x_8 x_1 x_9 c1 k) (iand .i64 r_18 x_8)
theorem t_f142_l1 (H : H142 D σ F) (x_8 : Int) (x_1 : (S1 (List Int))) (x_9 : (NL Int)) (c1 : Int → (NL Int) → Option (List Int)) (Hc1 : ∀ (x_8 : Int) (x_9 : (NL Int)) (s : Nat → V), Facts [(1, (ji x_8)), (2, (.ref (.bx 2) 0 [] (.agg [(eL x_1.a)]))), (4, (.sl .nl (Enc.shp Int) 0 [])), (5, (oI 5 [] x_9))] s → c1 x_8 x_9 = some r → Run D σ (R142 r) (.run A142_1 [.lp A142_1, .bk 0, .sq A142_11]) s) : ∀ (k : Nat) (x_16 : Int) (s : Nat → V), Facts [(1, (ji x_8)), (2, (.ref (.bx 2) 0 [] (.agg [(eL x_1.a)]))), (4, (.sl .nl (Enc.shp Int) 0 [])), (5, (oI 5 [] x_9)), (6, (ji x_16))] s → i_net_parts_l1 F x_8 x_1 x_9 c1 k x_16 = some r → Run D σ (R142 r) (.run A142_5 [.lp A142_5, .bk 2, .sq A142_9, .bk 1, .lp A142_1, .bk 0, .sq A142_11]) s := by
  intro k
  induction k with
  | zero => intro x_16 s _ h; exact nomatch (h : (none : Option _) = some r)
  | succ k ih =>
    intro x_16 s hs h
    rw [i_net_parts_l1] at h
    obtain ⟨h1, h2, h4, h5, h6⟩ := hs
    refine .block (.seq (rg (g1 2 (.agg [(eL x_1.a)]) h2 fun h14 => ?_)))
    refine gm h6 fun h15 => ?_
    obtain ⟨r_18, E_r_18, h⟩ := bind_some h
    refine g_call (m := 0) (al := false) (r := (Enc.enc (r_18 : Int))) [Enc.enc (x_1 : (S1 (List Int))), Enc.enc (x_16 : Int)] (ta_cons (v := (.agg [(eL x_1.a)])) h14 rfl (Enc.erase_enc (x_1 : (S1 (List Int)))) (ta_cons (v := (ji x_16)) h15 rfl rfl ta_nil)) (H.c175 _ _ _ E_r_18) H.g175 rfl rfl rfl rfl ?_
    refine gm h1 fun h17 => g2 16 17 (ji (iand .i64 r_18 x_8)) (rfl : (_ : V) = (ji r_18)) h17 fun h18 => ?_
    refine gm h18 fun h7 => gq (.nsq (.seq (.seq (rg (gm h7 fun h19 => gm h6 fun h20 => g2 19 20 (jb ((iand .i64 r_18 x_8) == x_16)) h19 h20 fun h21 => ?_)))))
    refine gq (.nsq (run_cond (t := ((iand .i64 r_18 x_8) == x_16)) h21 h (fun h => ?_) (fun h => ?_)))
    · refine .exit (.esq (.ebn (by decide) (.elp (.ebk (.nsq (.seq (run_reg ?_)))))))
      refine e_clr ?_
      refine ez [(1, _), (2, _), (4, _), (5, _), (6, _), (25, _), (26, _)] ⟨(keep_clear (pk := [25, 26]) h1 rfl mi), (keep_clear (pk := [25, 26]) h2 rfl (map_bx rfl (map_agg (maps_cons me maps_nil)))), (keep_clear (pk := [25, 26]) h4 rfl rfl), (keep_clear (pk := [25, 26]) h5 rfl (map_encO (r := 5) (p := []) rfl rfl)), (keep_clear (pk := [25, 26]) h6 rfl mi), (gone_clear (pk := [25, 26]) (t := 25) rfl), (gone_clear (pk := [25, 26]) (t := 26) rfl)⟩ ?_
      rintro s ⟨h1, h2, h4, h5, h6, h25, h26⟩
      refine gv (oI 5 [] x_9) (ev_mov h5 ok_encO) fun h23 => ?_
      refine gm h6 fun h24 => g_litL [(24, (ji x_16))] [Enc.enc (x_16 : Int)] h24 rfl rfl h25 ?_
      obtain ⟨ap_19, E_ap_19, h⟩ := bind_some h
      refine g_app (q := 5) (p := []) (o := (x_9 : NL Int)) (ys := ([x_16] : List Int)) (t2 := (.at 25 [])) (lo2 := 0) h23 rfl rfl h26 (appN_L (o := (x_9 : NL Int)) E_ap_19 (by split <;> simp)) (fun s_9 ha_9 => ?_)
      refine gm (rfl : (_ : V) = (oI 26 [] (.of ap_19))) fun h5 => ?_
      refine g_end ?_
      refine e_home (r := 26) (x := 5) (v := _) h5 rfl (fun s_10 hg_10 => ?_)
      refine ez [(1, (ji x_8)), (2, (.ref (.bx 2) 0 [] (.agg [(eL x_1.a)]))), (4, (.sl .nl (Enc.shp Int) 0 [])), (5, (oI 5 [] (.of ap_19))), (6, (ji x_16))] ⟨(hg_10 1 _ _ (show s_9 1 = (ji x_8) from keep_app ha_9 h1 mi) mi), (hg_10 2 _ _ (show s_9 2 = (.ref (.bx 2) 0 [] (.agg [(eL x_1.a)])) from keep_app ha_9 h2 (map_bx rfl (map_agg (maps_cons me maps_nil)))) (map_bx rfl (map_agg (maps_cons me maps_nil)))), (hg_10 4 _ (.sl .nl (Enc.shp Int) 0 []) (show s_9 4 = (.sl .nl (Enc.shp Int) 0 []) from keep_app ha_9 h4 rfl) rfl), (hg_10 5 _ _ h5 (map_encO (r := 26) (p := []) rfl rfl)), (hg_10 6 _ _ (show s_9 6 = (ji x_16) from keep_app ha_9 h6 mi) mi)⟩ ?_
      rintro s ⟨h1, h2, h4, h5, h6⟩
      refine .nsq (rg (gm h1 fun h27 => gm h6 fun h28 => g2 27 28 (ji (iandNot .i64 x_8 x_16)) h27 h28 fun h29 => ?_))
      refine gm h29 fun h1 => gq (.nbk (.nlp ?_))
      exact Hc1 (iandNot .i64 x_8 x_16) (.of ap_19) _ ⟨h1, h2, h4, h5⟩ h
    refine .skip (.nsq (rg (gm h7 fun h22 => gm h22 fun h6 => gq (.nbk (.nlp ?_)))))
    exact ih (iand .i64 r_18 x_8) _ ⟨h1, h2, h4, h5, h6⟩ h
def i_net_parts_l2 (F : Nat) (x_1 : (S1 (List Int)))  : Nat → Int → (NL Int) → Option (List Int)
  | 0, _, _ => none
  | k + 1, x_8, x_9 =>
    bif (x_8 != 0) then
      i_net_parts_l1 F x_8 x_1 x_9 (i_net_parts_l2 F x_1 k) F (iand .i64 x_8 (w64 (0 - x_8)))
    else
      some x_9.list
theorem t_f142_l2 (H : H142 D σ F) (x_1 : (S1 (List Int)))  : ∀ (k : Nat) (x_8 : Int) (x_9 : (NL Int)) (s : Nat → V), Facts [(1, (ji x_8)), (2, (.ref (.bx 2) 0 [] (.agg [(eL x_1.a)]))), (4, (.sl .nl (Enc.shp Int) 0 [])), (5, (oI 5 [] x_9))] s → i_net_parts_l2 F x_1 k x_8 x_9 = some r → Run D σ (R142 r) (.run A142_1 [.lp A142_1, .bk 0, .sq A142_11]) s := by
  intro k
  induction k with
  | zero => intro x_8 x_9 s _ h; exact nomatch (h : (none : Option _) = some r)
  | succ k ih =>
    intro x_8 x_9 s hs h
    rw [i_net_parts_l2] at h
    obtain ⟨h1, h2, h4, h5⟩ := hs
    refine .seq (.seq (rg (gm h1 fun h8 => g1 8 (jb (x_8 != 0)) h8 fun h9 => ?_)))
    refine gq (.nsq (run_cond (t := (x_8 != 0)) h9 h (fun h => ?_) (fun h => ?_)))
    · refine .skip (.nsq (.block (.seq (rg (gm h1 fun h10 => gm h1 fun h11 => g1 11 (ji (w64 (0 - x_8))) h11 fun h12 => ?_)))))
      refine g2 10 12 (ji (iand .i64 x_8 (w64 (0 - x_8)))) h10 h12 fun h13 => ?_
      refine gm h13 fun h6 => gq (.nsq (.seq (.block (.loop ?_))))
      exact t_f142_l1 H x_8 x_1 x_9 (i_net_parts_l2 F x_1 k) ih F (iand .i64 x_8 (w64 (0 - x_8))) _ ⟨h1, h2, h4, h5, h6⟩ h
    refine .exit (.esq (.elp (.ebk (.nsq (.seq (rg (gv (oI 5 [] x_9) (ev_mov h5 ok_encO) fun h30 => ?_)))))))
    refine gv (oI 5 [] x_9) (ev_mov h30 ok_encO) fun h4 => ?_
    refine g_end ?_
    refine e_home (r := 5) (x := 4) (v := _) h4 ok_encO (fun s_11 hg_11 => ?_)
    refine ez [(4, (oI 4 [] x_9))] (hg_11 4 _ _ h4 (map_encO (r := 5) (p := []) rfl rfl)) ?_
    rintro s h4
    refine .nsq (.ret ?_)
    have hr := Option.some.inj h
    subst hr
    exact rrA (res_tmp h4) (fin_retF (fin_own (o := x_9)) (mine_own rfl))
def i_net_parts (F : Nat) (x_1 : (S1 (List Int))) (x_2 : Int) : Option (List Int) :=
  i_net_parts_l2 F x_1 F x_2 .nil
theorem t142 (H : H142 D σ F) (x_1 : (S1 (List Int))) (x_2 : Int) (s : Nat → V) (hs : Facts [(0, (.agg [(eL x_1.a)])), (1, (ji x_2))] s) (h : i_net_parts F x_1 x_2 = some r) : Run D σ (R142 r) (.run A142 []) s := by
  unfold i_net_parts at h
  obtain ⟨h0, h1⟩ := hs
  refine .seq (run_reg ?_)
  refine e_clr ?_
  refine ez [(0, _), (1, _), (2, _)] ⟨(keep_clear (pk := [2]) h0 rfl (map_agg (maps_cons me maps_nil))), (keep_clear (pk := [2]) h1 rfl mi), (gone_clear (pk := [2]) (t := 2) rfl)⟩ ?_
  rintro s ⟨h0, h1, h2⟩
  refine g_box (.agg [(eL x_1.a)]) (rd_of h0 rfl) h2 rfl ?_
  refine g0 (.sl .nl (Enc.shp Int) 0 []) fun h4 => ?_
  refine gq (.nsq (.seq (rg (g0 (.sl .nl (Enc.shp Int) 0 []) fun h5 => ?_))))
  refine gq (.nsq (.seq (.block (.loop ?_))))
  exact t_f142_l2 H x_1 F x_2 .nil _ ⟨h1, rfl, h4, h5⟩ h
end
def e142 (F : Nat) : Ent := ent 142 (fun (x : ((S1 (List Int)) × Int × Unit)) => i_net_parts F x.1 x.2.1) (fun (r : (List Int)) => (Enc.enc (r : (List Int)))) 0 false []
theorem p142 {F : Nat} {x0 : (S1 (List Int))} {x1 : Int} {r : (List Int)} (h : i_net_parts F x0 x1 = some r) : (e142 F).den [Enc.enc x0, Enc.enc x1] = some (Enc.enc (r : (List Int))) := ent_put (x0, x1, ()) h
theorem o142 {D : Den} {σ : Sig} {F : Nat} (hF : Fits2 Try.prog D σ) (H : H142 D σ F) : (e142 F).Ok Try.prog := by
  refine ok_of (f := 142) (show unk 142 = 142 from rfl) (fun args r h => ?_) ⟨Try.f142, Try.func142, rfl, rfl⟩
  obtain ⟨⟨x0, x1, _⟩, y, rfl, hy, rfl⟩ := da_open h
  exact contract_run hF (by kernel_rfl) Try.func142 rfl c142 (show 2 ≤ Try.f142.ntmps by decide) (t142 H x0 x1 _ ⟨rfl, rfl⟩ hy)
/- loop.example/g01109/impl.setOf -/
def A83_2 : AC := (.cond (.t 8) .skip (.exit 0))
def A83_4 : AC := (.cond (.t 15) (.reg [.clr [18, 19]] [(jm 16 3), (jm 17 4), (.mk (some 18) none false (.lit (.int .i64 (.ofNat 0)) 1 [(0, 0, (.t 17))])), (.mk (some 19) none false (.app .s (.t 16) (.t 18))), (jm 3 19)] [.home 19 3]) .skip)
def A83_5 : AC := (.reg [] [(jm 9 4), ((jv 10 (.bin .add (.t 9) (jn 1)))), (jm 4 10)] [])
def A83_3 : AC := (.seq (.block 1 (.seq (.reg [] [(jm 11 0), (jm 12 4), ((jv 13 (.bin .shr (.t 11) (.t 12)))), ((jv 14 (.bin .and (.t 13) (jn 1)))), ((jv 15 (.bin .eql (.t 14) (jn 1))))] []) A83_4)) A83_5)
def A83_1 : AC := (.seq (.seq (.reg [] [(jm 5 0), (jm 6 4), ((jv 7 (.bin .shr (.t 5) (.t 6)))), ((jv 8 (.bin .neq (.t 7) (jn 0))))] []) A83_2) A83_3)
def A83_6 : AC := (.seq (.reg [] [(jm 20 3), (jm 2 20)] [.home 3 2]) .ret)
def A83_9 : AC := (.block 0 (.loop A83_1))
def A83_8 : AC := (.seq (.seq (.reg [] [((jv 4 (.mov (jn 0))))] []) A83_9) A83_6)
def A83_7 : AC := (.seq (.reg [] [((jv 3 (.mov (.k (.sl .nl .s 0 [])))))] []) A83_8)
def A83 : AC := (.seq (.reg [] [((jv 2 (.mov (.k (.sl .nl .s 0 [])))))] []) A83_7)
def an83 : List An := [{ id := 6, pre := [.clr [18, 19]], ep := [.home 19 3], lin := [], sp := [] }, { id := 7, pre := [], ep := [.home 3 2], lin := [], sp := [] }]
theorem c83 : cC Try.prog Try.f83.ntmps an83 (Try.f83.body.getD .skip) = some A83 := by kernel_rfl
structure H83 (D : Den) (σ : Sig) (F : Nat) : Prop where
  mk ::
abbrev R83 (r : (List Int)) : (Nat → V) → Prop := RR Try.prog [.tmp 2] 0 false (Enc.enc (r : (List Int)))
section
variable {D : Den} {σ : Sig} {F : Nat} {r : (List Int)}
def i_setOf_j1 (F : Nat) (x_1 : Int) (x_8 : Int) (c1 : (NL Int) → Int → Option (List Int)) (x_17 : (NL Int)) : Option (List Int) :=
  c1 x_17 (w64 (x_8 + 1))
theorem t_f83_j1 (H : H83 D σ F) (x_1 : Int) (x_8 : Int) (c1 : (NL Int) → Int → Option (List Int)) (Hc1 : ∀ (x_7 : (NL Int)) (x_8 : Int) (s : Nat → V), Facts [(0, (ji x_1)), (2, (.sl .nl (Enc.shp Int) 0 [])), (3, (oI 3 [] x_7)), (4, (ji x_8))] s → c1 x_7 x_8 = some r → Run D σ (R83 r) (.run A83_1 [.lp A83_1, .bk 0, .sq A83_6]) s) (x_17 : (NL Int)) (s : Nat → V) (hs : Facts [(0, (ji x_1)), (2, (.sl .nl (Enc.shp Int) 0 [])), (3, (oI 3 [] x_17)), (4, (ji x_8))] s) (h : i_setOf_j1 F x_1 x_8 c1 x_17 = some r) : Run D σ (R83 r) (.nrm [.bk 1, .sq A83_5, .lp A83_1, .bk 0, .sq A83_6]) s := by
  unfold i_setOf_j1 at h
  obtain ⟨h0, h2, h3, h4⟩ := hs
  refine .nbk (.nsq (rg (gm h4 fun h9 => g1 9 (ji (w64 (x_8 + 1))) h9 fun h10 => ?_)))
  refine gm h10 fun h4 => gq (.nlp ?_)
  exact Hc1 x_17 (w64 (x_8 + 1)) _ ⟨h0, h2, h3, h4⟩ h
def i_setOf_l1 (F : Nat) (x_1 : Int)  : Nat → (NL Int) → Int → Option (List Int)
  | 0, _, _ => none
  | k + 1, x_7, x_8 =>
    (shrI .i64 x_1 x_8).bind fun q_14 =>
    bif (q_14 != 0) then
      (shrI .i64 x_1 x_8).bind fun q_15 =>
      bif ((iand .i64 q_15 1) == 1) then
        (appL x_7.list [x_8]).bind fun ap_18 =>
        i_setOf_j1 F x_1 x_8 (i_setOf_l1 F x_1 k) (.of ap_18)
      else
        i_setOf_j1 F x_1 x_8 (i_setOf_l1 F x_1 k) x_7
    else
      some x_7.list
theorem t_f83_l1 (H : H83 D σ F) (x_1 : Int)  : ∀ (k : Nat) (x_7 : (NL Int)) (x_8 : Int) (s : Nat → V), Facts [(0, (ji x_1)), (2, (.sl .nl (Enc.shp Int) 0 [])), (3, (oI 3 [] x_7)), (4, (ji x_8))] s → i_setOf_l1 F x_1 k x_7 x_8 = some r → Run D σ (R83 r) (.run A83_1 [.lp A83_1, .bk 0, .sq A83_6]) s := by
  intro k
  induction k with
  | zero => intro x_7 x_8 s _ h; exact nomatch (h : (none : Option _) = some r)
  | succ k ih =>
    intro x_7 x_8 s hs h
    rw [i_setOf_l1] at h
    obtain ⟨h0, h2, h3, h4⟩ := hs
    refine .seq (.seq (rg (gm h0 fun h5 => gm h4 fun h6 => ?_)))
    obtain ⟨q_14, E_q_14, h⟩ := bind_some h
    refine gv (ji q_14) (ev_shr h5 h6 E_q_14) fun h7 => ?_
    refine g1 7 (jb (q_14 != 0)) h7 fun h8 => ?_
    refine gq (.nsq (run_cond (t := (q_14 != 0)) h8 h (fun h => ?_) (fun h => ?_)))
    · refine .skip (.nsq (.seq (.block (.seq (rg (gm h0 fun h11 => gm h4 fun h12 => ?_))))))
      obtain ⟨q_15, E_q_15, h⟩ := bind_some h
      refine gv (ji q_15) (ev_shr h11 h12 E_q_15) fun h13 => ?_
      refine g1 13 (ji (iand .i64 q_15 1)) h13 fun h14 => ?_
      refine g1 14 (jb ((iand .i64 q_15 1) == 1)) h14 fun h15 => ?_
      refine gq (.nsq (run_cond (t := ((iand .i64 q_15 1) == 1)) h15 h (fun h => ?_) (fun h => ?_)))
      · refine run_reg ?_
        refine e_clr ?_
        refine ez [(0, _), (2, _), (3, _), (4, _), (18, _), (19, _)] ⟨(keep_clear (pk := [18, 19]) h0 rfl mi), (keep_clear (pk := [18, 19]) h2 rfl rfl), (keep_clear (pk := [18, 19]) h3 rfl (map_encO (r := 3) (p := []) rfl rfl)), (keep_clear (pk := [18, 19]) h4 rfl mi), (gone_clear (pk := [18, 19]) (t := 18) rfl), (gone_clear (pk := [18, 19]) (t := 19) rfl)⟩ ?_
        rintro s ⟨h0, h2, h3, h4, h18, h19⟩
        refine gv (oI 3 [] x_7) (ev_mov h3 ok_encO) fun h16 => ?_
        refine gm h4 fun h17 => g_litL [(17, (ji x_8))] [Enc.enc (x_8 : Int)] h17 rfl rfl h18 ?_
        obtain ⟨ap_18, E_ap_18, h⟩ := bind_some h
        refine g_app (q := 3) (p := []) (o := (x_7 : NL Int)) (ys := ([x_8] : List Int)) (t2 := (.at 18 [])) (lo2 := 0) h16 rfl rfl h19 (appN_L (o := (x_7 : NL Int)) E_ap_18 (by split <;> simp)) (fun s_17 ha_17 => ?_)
        refine gm (rfl : (_ : V) = (oI 19 [] (.of ap_18))) fun h3 => ?_
        refine g_end ?_
        refine e_home (r := 19) (x := 3) (v := _) h3 rfl (fun s_18 hg_18 => ?_)
        refine ez [(0, (ji x_1)), (2, (.sl .nl (Enc.shp Int) 0 [])), (3, (oI 3 [] (.of ap_18))), (4, (ji x_8))] ⟨(hg_18 0 _ _ (show s_17 0 = (ji x_1) from keep_app ha_17 h0 mi) mi), (hg_18 2 _ (.sl .nl (Enc.shp Int) 0 []) (show s_17 2 = (.sl .nl (Enc.shp Int) 0 []) from keep_app ha_17 h2 rfl) rfl), (hg_18 3 _ _ h3 (map_encO (r := 19) (p := []) rfl rfl)), (hg_18 4 _ _ (show s_17 4 = (ji x_8) from keep_app ha_17 h4 mi) mi)⟩ ?_
        rintro s ⟨h0, h2, h3, h4⟩
        exact t_f83_j1 H x_1 x_8 (i_setOf_l1 F x_1 k) ih (.of ap_18) _ ⟨h0, h2, h3, h4⟩ h
      refine .skip ?_
      exact t_f83_j1 H x_1 x_8 (i_setOf_l1 F x_1 k) ih x_7 _ ⟨h0, h2, h3, h4⟩ h
    refine .exit (.esq (.elp (.ebk (.nsq (.seq (rg (gv (oI 3 [] x_7) (ev_mov h3 ok_encO) fun h20 => ?_)))))))
    refine gv (oI 3 [] x_7) (ev_mov h20 ok_encO) fun h2 => ?_
    refine g_end ?_
    refine e_home (r := 3) (x := 2) (v := _) h2 ok_encO (fun s_19 hg_19 => ?_)
    refine ez [(2, (oI 2 [] x_7))] (hg_19 2 _ _ h2 (map_encO (r := 3) (p := []) rfl rfl)) ?_
    rintro s h2
    refine .nsq (.ret ?_)
    have hr := Option.some.inj h
    subst hr
    exact rrA (res_tmp h2) (fin_retF (fin_own (o := x_7)) (mine_own rfl))
def i_setOf (F : Nat) (x_1 : Int) : Option (List Int) :=
  i_setOf_l1 F x_1 F .nil 0
theorem t83 (H : H83 D σ F) (x_1 : Int) (s : Nat → V) (hs : Facts [(0, (ji x_1))] s) (h : i_setOf F x_1 = some r) : Run D σ (R83 r) (.run A83 []) s := by
  unfold i_setOf at h
  have h0 := hs
  refine .seq (rg (g0 (.sl .nl (Enc.shp Int) 0 []) fun h2 => ?_))
  refine gq (.nsq (.seq (rg (g0 (.sl .nl (Enc.shp Int) 0 []) fun h3 => ?_))))
  refine gq (.nsq (.seq (.seq (rg (g0 (ji 0) fun h4 => gq (.nsq (.block (.loop ?_))))))))
  exact t_f83_l1 H x_1 F .nil 0 _ ⟨h0, h2, h3, h4⟩ h
end
def e83 (F : Nat) : Ent := ent 83 (fun (x : (Int × Unit)) => i_setOf F x.1) (fun (r : (List Int)) => (Enc.enc (r : (List Int)))) 0 false []
theorem p83 {F : Nat} {x0 : Int} {r : (List Int)} (h : i_setOf F x0 = some r) : (e83 F).den [Enc.enc x0] = some (Enc.enc (r : (List Int))) := ent_put (x0, ()) h
theorem o83 {D : Den} {σ : Sig} {F : Nat} (hF : Fits2 Try.prog D σ) (H : H83 D σ F) : (e83 F).Ok Try.prog := by
  refine ok_of (f := 83) (show unk 83 = 83 from rfl) (fun args r h => ?_) ⟨Try.f83, Try.func83, rfl, rfl⟩
  obtain ⟨⟨x0, _⟩, y, rfl, hy, rfl⟩ := da_open h
  exact contract_run hF (by kernel_rfl) Try.func83 rfl c83 (show 1 ≤ Try.f83.ntmps by decide) (t83 H x0 _ rfl hy)
/- (loop.example/g01109/impl.net).bestRoot -/
def A143_5 : AC := (.cond (.t 35) (.reg [] [(jm 36 9), (jm 7 36)] []) .skip)
def A143_4 : AC := (.seq (.reg [] [(jm 17 7), ((jv 18 (.bin .lss (.t 17) (jn 0)))), (jm 19 18), ((jg 20 19 false (.mov (.t 1)))), ((jg 21 19 false (.mov (.t 2)))), ((jg 22 19 false (.mov (.t 9)))), ((jg 23 19 false (.bin .shl (jn 1) (.t 22)))), ((jg 24 19 false (.bin .andNot (.t 21) (.t 23)))), ((jg 25 19 false (.idx (.t 20) (.t 24) 1))), ((jg 26 19 false (.load .s (.t 25)))), ((jg 27 19 false (.mov (.t 1)))), ((jg 28 19 false (.mov (.t 2)))), ((jg 29 19 false (.mov (.t 7)))), ((jg 30 19 false (.bin .shl (jn 1) (.t 29)))), ((jg 31 19 false (.bin .andNot (.t 28) (.t 30)))), ((jg 32 19 false (.idx (.t 27) (.t 31) 1))), ((jg 33 19 false (.load .s (.t 32)))), ((jg 34 19 false (.bin .lss (.t 26) (.t 33)))), ((jv 35 (.pick (.t 19) (.k (.bool true)) (.t 34))))] []) A143_5)
def A143_6 : AC := (.reg [] [((jv 37 (.bin .add (.t 13) (jn 1)))), (jm 13 37)] [])
def A143_3 : AC := (.seq (.block 1 (.seq (.reg [] [((jv 15 (.idx (.t 11) (.t 13) 1))), ((jv 16 (.load .s (.t 15)))), (jm 9 16)] []) A143_4)) A143_6)
def A143_2 : AC := (.seq (.cond (.t 14) .skip (.exit 0)) A143_3)
def A143_1 : AC := (.seq (.reg [] [((jv 14 (.bin .lss (.t 13) (.t 12))))] []) A143_2)
def A143_7 : AC := (.seq (.reg [] [(jm 38 7), (jm 6 38)] []) .ret)
def A143_10 : AC := (.block 0 (.loop A143_1))
def A143_9 : AC := (.seq (.seq (.reg [] [(jm 10 2), (.mk (some 11) none false (.call (.k (.fn 83 [] [])) [(.t 10)])), ((jv 12 (.len (.t 11)))), ((jv 13 (.mov (jn 0))))] []) A143_10) A143_7)
def A143_8 : AC := (.seq (.reg [] [((jv 7 (.mov (jn (-1)))))] []) A143_9)
def A143 : AC := (.seq (.reg [.clr [3]] [(.mk (some 3) none false (.box (.t 0))), ((jv 6 (.mov (jn 0))))] []) A143_8)
def an143 : List An := [{ id := 0, pre := [.clr [3]], ep := [], lin := [], sp := [] }]
theorem c143 : cC Try.prog Try.f143.ntmps an143 (Try.f143.body.getD .skip) = some A143 := by kernel_rfl
structure H143 (D : Den) (σ : Sig) (F : Nat) : Prop where
  c83 : ∀ (x0 : Int) r, i_setOf F x0 = some r → D 83 [Enc.enc x0] = some (Enc.enc (r : (List Int)))
  g83 : σ 83 = some (0, false)
abbrev R143 (r : Int) : (Nat → V) → Prop := RR Try.prog [.tmp 6] 0 false (Enc.enc (r : Int))
section
variable {D : Den} {σ : Sig} {F : Nat} {r : Int}
def i_net_bestRoot_j1 (F : Nat) (x_2 : (List Int)) (x_3 : Int) (r_4 : (List Int)) (x_17 : Int) (c1 : Int → Int → Option Int) (x_35 : Int) : Option Int :=
  c1 x_35 (w64 (x_17 + 1))
theorem t_f143_j1 (H : H143 D σ F) (x_2 : (List Int)) (x_3 : Int) (r_4 : (List Int)) (x_17 : Int) (c1 : Int → Int → Option Int) (Hc1 : ∀ (x_16 : Int) (x_17 : Int) (s : Nat → V), Facts [(1, (eL x_2)), (2, (ji x_3)), (6, (ji 0)), (7, (ji x_16)), (11, (eL r_4)), (12, (ji (r_4.length : Int))), (13, (ji x_17))] s → c1 x_16 x_17 = some r → Run D σ (R143 r) (.run A143_1 [.lp A143_1, .bk 0, .sq A143_7]) s) (x_35 : Int) (s : Nat → V) (hs : Facts [(1, (eL x_2)), (2, (ji x_3)), (6, (ji 0)), (7, (ji x_35)), (11, (eL r_4)), (12, (ji (r_4.length : Int))), (13, (ji x_17))] s) (h : i_net_bestRoot_j1 F x_2 x_3 r_4 x_17 c1 x_35 = some r) : Run D σ (R143 r) (.nrm [.bk 1, .sq A143_6, .lp A143_1, .bk 0, .sq A143_7]) s := by
  unfold i_net_bestRoot_j1 at h
  obtain ⟨h1, h2, h6, h7, h11, h12, h13⟩ := hs
  refine .nbk (.nsq (rg (g1 13 (ji (w64 (x_17 + 1))) h13 fun h37 => ?_)))
  refine gm h37 fun h13 => gq (.nlp ?_)
  exact Hc1 x_35 (w64 (x_17 + 1)) _ ⟨h1, h2, h6, h7, h11, h12, h13⟩ h
def i_net_bestRoot_j2 (F : Nat) (x_2 : (List Int)) (x_3 : Int) (x_16 : Int) (e_29 : Int) (r_4 : (List Int)) (x_17 : Int) (c1 : Int → Int → Option Int) (x_34 : Bool) : Option Int :=
  bif x_34 then
    i_net_bestRoot_j1 F x_2 x_3 r_4 x_17 c1 e_29
  else
    i_net_bestRoot_j1 F x_2 x_3 r_4 x_17 c1 x_16
theorem t_f143_j2 (H : H143 D σ F) (x_2 : (List Int)) (x_3 : Int) (x_16 : Int) (e_29 : Int) (r_4 : (List Int)) (x_17 : Int) (c1 : Int → Int → Option Int) (Hc1 : ∀ (x_16 : Int) (x_17 : Int) (s : Nat → V), Facts [(1, (eL x_2)), (2, (ji x_3)), (6, (ji 0)), (7, (ji x_16)), (11, (eL r_4)), (12, (ji (r_4.length : Int))), (13, (ji x_17))] s → c1 x_16 x_17 = some r → Run D σ (R143 r) (.run A143_1 [.lp A143_1, .bk 0, .sq A143_7]) s) (x_34 : Bool) (s : Nat → V) (hs : Facts [(1, (eL x_2)), (2, (ji x_3)), (6, (ji 0)), (7, (ji x_16)), (9, (ji e_29)), (11, (eL r_4)), (12, (ji (r_4.length : Int))), (13, (ji x_17)), (35, (jb x_34))] s) (h : i_net_bestRoot_j2 F x_2 x_3 x_16 e_29 r_4 x_17 c1 x_34 = some r) : Run D σ (R143 r) (.nrm [.sq A143_5, .bk 1, .sq A143_6, .lp A143_1, .bk 0, .sq A143_7]) s := by
  unfold i_net_bestRoot_j2 at h
  obtain ⟨h1, h2, h6, h7, h9, h11, h12, h13, h35⟩ := hs
  refine .nsq (run_cond (t := x_34) h35 h (fun h => ?_) (fun h => ?_))
  · refine rg (gm h9 fun h36 => gm h36 fun h7 => gq ?_)
    exact t_f143_j1 H x_2 x_3 r_4 x_17 c1 Hc1 e_29 _ ⟨h1, h2, h6, h7, h11, h12, h13⟩ h
  refine .skip ?_
  exact t_f143_j1 H x_2 x_3 r_4 x_17 c1 Hc1 x_16 _ ⟨h1, h2, h6, h7, h11, h12, h13⟩ h
def i_net_bestRoot_l1 (F : Nat) (x_2 : (List Int)) (x_3 : Int) (r_4 : (List Int))  : Nat → Int → Int → Option Int
  | 0, _, _ => none
  | k + 1, x_16, x_17 =>
    bif decide (x_17 < (r_4.length : Int)) then
      (idx r_4 x_17).bind fun e_29 =>
      bif decide (x_16 < 0) then
        i_net_bestRoot_j2 F x_2 x_3 x_16 e_29 r_4 x_17 (i_net_bestRoot_l1 F x_2 x_3 r_4 k) true
      else
        (shlI .i64 1 e_29).bind fun q_36 =>
        (idx x_2 (iandNot .i64 x_3 q_36)).bind fun e_37 =>
        (shlI .i64 1 x_16).bind fun q_38 =>
        (idx x_2 (iandNot .i64 x_3 q_38)).bind fun e_39 =>
        i_net_bestRoot_j2 F x_2 x_3 x_16 e_29 r_4 x_17 (i_net_bestRoot_l1 F x_2 x_3 r_4 k) (decide (e_37 < e_39))
    else
      some x_16
theorem t_f143_l1 (H : H143 D σ F) (x_2 : (List Int)) (x_3 : Int) (r_4 : (List Int))  : ∀ (k : Nat) (x_16 : Int) (x_17 : Int) (s : Nat → V), Facts [(1, (eL x_2)), (2, (ji x_3)), (6, (ji 0)), (7, (ji x_16)), (11, (eL r_4)), (12, (ji (r_4.length : Int))), (13, (ji x_17))] s → i_net_bestRoot_l1 F x_2 x_3 r_4 k x_16 x_17 = some r → Run D σ (R143 r) (.run A143_1 [.lp A143_1, .bk 0, .sq A143_7]) s := by
  intro k
  induction k with
  | zero => intro x_16 x_17 s _ h; exact nomatch (h : (none : Option _) = some r)
  | succ k ih =>
    intro x_16 x_17 s hs h
    rw [i_net_bestRoot_l1] at h
    obtain ⟨h1, h2, h6, h7, h11, h12, h13⟩ := hs
    refine .seq (rg (g2 13 12 (jb (decide (x_17 < (r_4.length : Int)))) h13 h12 fun h14 => ?_))
    refine gq (.nsq (.seq (run_cond (t := decide (x_17 < (r_4.length : Int))) h14 h (fun h => ?_) (fun h => ?_))))
    · refine .skip (.nsq (.seq (.block (.seq (rg ?_)))))
      obtain ⟨e_29, E_e_29, h⟩ := bind_some h
      refine gv (.ref .sh 0 [] (ji e_29)) (ev_idx (t := .sh) (lo := 0) (xs := r_4) h11 h13 E_e_29 rfl rfl) fun h15 => ?_
      refine g1 15 (ji e_29) h15 fun h16 => ?_
      refine gm h16 fun h9 => gq (.nsq (.seq (rg (gm h7 fun h17 => g1 17 (jb (decide (x_16 < 0))) h17 fun h18 => ?_))))
      refine gm h18 fun h19 => split_on (c := decide (x_16 < 0)) h (fun hg3 h => ?_) (fun hg3 h => ?_)
      · refine g_no (h19.trans (congrArg V.bool hg3)) ?_
        refine g_no (h19.trans (congrArg V.bool hg3)) ?_
        refine g_no (h19.trans (congrArg V.bool hg3)) ?_
        refine g_no (h19.trans (congrArg V.bool hg3)) ?_
        refine g_no (h19.trans (congrArg V.bool hg3)) ?_
        refine g_no (h19.trans (congrArg V.bool hg3)) ?_
        refine g_no (h19.trans (congrArg V.bool hg3)) ?_
        refine g_no (h19.trans (congrArg V.bool hg3)) ?_
        refine g_no (h19.trans (congrArg V.bool hg3)) ?_
        refine g_no (h19.trans (congrArg V.bool hg3)) ?_
        refine g_no (h19.trans (congrArg V.bool hg3)) ?_
        refine g_no (h19.trans (congrArg V.bool hg3)) ?_
        refine g_no (h19.trans (congrArg V.bool hg3)) ?_
        refine g_no (h19.trans (congrArg V.bool hg3)) ?_
        refine g_no (h19.trans (congrArg V.bool hg3)) ?_
        refine g2 19 34 (jb true) (h19.trans (congrArg V.bool hg3)) (rfl : (_ : V) = (.tup [])) fun h35 => ?_
        refine gq ?_
        exact t_f143_j2 H x_2 x_3 x_16 e_29 r_4 x_17 (i_net_bestRoot_l1 F x_2 x_3 r_4 k) ih true _ ⟨h1, h2, h6, h7, h9, h11, h12, h13, h35⟩ h
      refine g_yes (h19.trans (congrArg V.bool hg3)) (gm h1 fun h20 => ?_)
      refine g_yes (h19.trans (congrArg V.bool hg3)) (gm h2 fun h21 => ?_)
      refine g_yes (h19.trans (congrArg V.bool hg3)) (gm h9 fun h22 => ?_)
      obtain ⟨q_36, E_q_36, h⟩ := bind_some h
      refine g_yes (h19.trans (congrArg V.bool hg3)) (gv (ji q_36) (ev_shl rfl h22 E_q_36) fun h23 => ?_)
      refine g_yes (h19.trans (congrArg V.bool hg3)) (g2 21 23 (ji (iandNot .i64 x_3 q_36)) h21 h23 fun h24 => ?_)
      obtain ⟨e_37, E_e_37, h⟩ := bind_some h
      refine g_yes (h19.trans (congrArg V.bool hg3)) (gv (.ref .sh 0 [] (ji e_37)) (ev_idx (t := .sh) (lo := 0) (xs := x_2) h20 h24 E_e_37 rfl rfl) fun h25 => ?_)
      refine g_yes (h19.trans (congrArg V.bool hg3)) (g1 25 (ji e_37) h25 fun h26 => ?_)
      refine g_yes (h19.trans (congrArg V.bool hg3)) (gm h1 fun h27 => ?_)
      refine g_yes (h19.trans (congrArg V.bool hg3)) (gm h2 fun h28 => ?_)
      refine g_yes (h19.trans (congrArg V.bool hg3)) (gm h7 fun h29 => ?_)
      obtain ⟨q_38, E_q_38, h⟩ := bind_some h
      refine g_yes (h19.trans (congrArg V.bool hg3)) (gv (ji q_38) (ev_shl rfl h29 E_q_38) fun h30 => ?_)
      refine g_yes (h19.trans (congrArg V.bool hg3)) (g2 28 30 (ji (iandNot .i64 x_3 q_38)) h28 h30 fun h31 => ?_)
      obtain ⟨e_39, E_e_39, h⟩ := bind_some h
      refine g_yes (h19.trans (congrArg V.bool hg3)) (gv (.ref .sh 0 [] (ji e_39)) (ev_idx (t := .sh) (lo := 0) (xs := x_2) h27 h31 E_e_39 rfl rfl) fun h32 => ?_)
      refine g_yes (h19.trans (congrArg V.bool hg3)) (g1 32 (ji e_39) h32 fun h33 => ?_)
      refine g_yes (h19.trans (congrArg V.bool hg3)) (g2 26 33 (jb (decide (e_37 < e_39))) h26 h33 fun h34 => ?_)
      refine g2 19 34 (jb (decide (e_37 < e_39))) (h19.trans (congrArg V.bool hg3)) h34 fun h35 => ?_
      refine gq ?_
      exact t_f143_j2 H x_2 x_3 x_16 e_29 r_4 x_17 (i_net_bestRoot_l1 F x_2 x_3 r_4 k) ih (decide (e_37 < e_39)) _ ⟨h1, h2, h6, h7, h9, h11, h12, h13, h35⟩ h
    refine .exit (.esq (.elp (.ebk (.nsq (.seq (rg (gm h7 fun h38 => gm h38 fun h6 => gq (.nsq (.ret ?_)))))))))
    have hr := Option.some.inj h
    subst hr
    exact rrA (res_tmp h6) rfl
def i_net_bestRoot (F : Nat) (x_1 : (S1 (List Int))) (x_2 : (List Int)) (x_3 : Int) : Option Int :=
  (i_setOf F x_3).bind fun r_4 =>
  i_net_bestRoot_l1 F x_2 x_3 r_4 F (-1) 0
theorem t143 (H : H143 D σ F) (x_1 : (S1 (List Int))) (x_2 : (List Int)) (x_3 : Int) (s : Nat → V) (hs : Facts [(0, (.agg [(eL x_1.a)])), (1, (eL x_2)), (2, (ji x_3))] s) (h : i_net_bestRoot F x_1 x_2 x_3 = some r) : Run D σ (R143 r) (.run A143 []) s := by
  unfold i_net_bestRoot at h
  obtain ⟨h0, h1, h2⟩ := hs
  refine .seq (run_reg ?_)
  refine e_clr ?_
  refine ez [(0, _), (1, _), (2, _), (3, _)] ⟨(keep_clear (pk := [3]) h0 rfl (map_agg (maps_cons me maps_nil))), (keep_clear (pk := [3]) h1 rfl me), (keep_clear (pk := [3]) h2 rfl mi), (gone_clear (pk := [3]) (t := 3) rfl)⟩ ?_
  rintro s ⟨h0, h1, h2, h3⟩
  refine g_box (.agg [(eL x_1.a)]) (rd_of h0 rfl) h3 rfl ?_
  refine g0 (ji 0) fun h6 => gq (.nsq (.seq (rg (g0 (ji (-1)) fun h7 => ?_))))
  refine gq (.nsq (.seq (.seq (rg (gm h2 fun h10 => ?_)))))
  obtain ⟨r_4, E_r_4, h⟩ := bind_some h
  refine g_call (m := 0) (al := false) (r := (Enc.enc (r_4 : (List Int)))) [Enc.enc (x_3 : Int)] (ta_cons (v := (ji x_3)) h10 rfl rfl ta_nil) (H.c83 _ _ E_r_4) H.g83 rfl rfl rfl rfl ?_
  refine gv (ji (r_4.length : Int)) (ev_len (xs := r_4) rfl) fun h12 => ?_
  refine g0 (ji 0) fun h13 => gq (.nsq (.block (.loop ?_)))
  exact t_f143_l1 H x_2 x_3 r_4 F (-1) 0 _ ⟨h1, h2, h6, h7, rfl, h12, h13⟩ h
end
def e143 (F : Nat) : Ent := ent 143 (fun (x : ((S1 (List Int)) × (List Int) × Int × Unit)) => i_net_bestRoot F x.1 x.2.1 x.2.2.1) (fun (r : Int) => (Enc.enc (r : Int))) 0 false []
theorem p143 {F : Nat} {x0 : (S1 (List Int))} {x1 : (List Int)} {x2 : Int} {r : Int} (h : i_net_bestRoot F x0 x1 x2 = some r) : (e143 F).den [Enc.enc x0, Enc.enc x1, Enc.enc x2] = some (Enc.enc (r : Int)) := ent_put (x0, x1, x2, ()) h
theorem o143 {D : Den} {σ : Sig} {F : Nat} (hF : Fits2 Try.prog D σ) (H : H143 D σ F) : (e143 F).Ok Try.prog := by
  refine ok_of (f := 143) (show unk 143 = 143 from rfl) (fun args r h => ?_) ⟨Try.f143, Try.func143, rfl, rfl⟩
  obtain ⟨⟨x0, x1, x2, _⟩, y, rfl, hy, rfl⟩ := da_open h
  exact contract_run hF (by kernel_rfl) Try.func143 rfl c143 (show 3 ≤ Try.f143.ntmps by decide) (t143 H x0 x1 x2 _ ⟨rfl, rfl, rfl⟩ hy)
/- (loop.example/g01109/impl.net).treedepths -/
def A111_2 : AC := (.cond (.t 15) .skip (.exit 0))
def A111_10 : AC := (.reg [] [(jm 30 3), (jm 31 4), (jm 32 3), (jm 33 4), ((jv 34 (.idx (.t 32) (.t 33) 1))), ((jv 35 (.load .s (.t 34)))), (jm 36 3), (jm 37 7), ((jv 38 (.idx (.t 36) (.t 37) 1))), ((jv 39 (.load .s (.t 38)))), ((jv 40 (.mx [(.t 35), (.t 39)]))), ((jv 41 (.idx (.t 30) (.t 31) 1))), (.mk none none false (.store .s (.t 41) (.t 40)))] [])
def A111_11 : AC := (.reg [] [((jv 42 (.bin .add (.t 26) (jn 1)))), (jm 26 42)] [])
def A111_9 : AC := (.seq (.block 3 (.seq (.reg [] [((jv 28 (.idx (.t 24) (.t 26) 1))), ((jv 29 (.load .s (.t 28)))), (jm 7 29)] []) A111_10)) A111_11)
def A111_8 : AC := (.seq (.cond (.t 27) .skip (.exit 2)) A111_9)
def A111_7 : AC := (.seq (.reg [] [((jv 27 (.bin .lss (.t 26) (.t 25))))] []) A111_8)
def A111_6 : AC := (.block 2 (.loop A111_7))
def A111_5 : AC := (.cond (.t 23) (.seq (.seq (.reg [] [(jm 24 5), ((jv 25 (.len (.t 24)))), ((jv 26 (.mov (jn 0))))] []) A111_6) (.exit 1)) .skip)
def A111_12 : AC := (.reg [] [(jm 43 3), (jm 44 4), (jm 45 3), (jm 46 4), ((jv 47 (.load (.ag [.p]) (.t 1)))), (jm 48 3), (jm 49 4), (.mk (some 50) none false (.call (.k (.fn 143 [] [])) [(.t 47), (.t 48), (.t 49)])), ((jv 51 (.bin .shl (jn 1) (.t 50)))), ((jv 52 (.bin .andNot (.t 46) (.t 51)))), ((jv 53 (.idx (.t 45) (.t 52) 1))), ((jv 54 (.load .s (.t 53)))), ((jv 55 (.bin .add (.t 54) (jn 1)))), ((jv 56 (.idx (.t 43) (.t 44) 1))), (.mk none none false (.store .s (.t 56) (.t 55)))] [])
def A111_4 : AC := (.seq (.seq (.reg [] [(jm 21 5), ((jv 22 (.len (.t 21)))), ((jv 23 (.bin .gtr (.t 22) (jn 1))))] []) A111_5) A111_12)
def A111_13 : AC := (.reg [] [(jm 16 4), ((jv 17 (.bin .add (.t 16) (jn 1)))), (jm 4 17)] [])
def A111_3 : AC := (.seq (.block 1 (.seq (.reg [] [((jv 18 (.load (.ag [.p]) (.t 1)))), (jm 19 4), (.mk (some 20) none false (.call (.k (.fn 142 [] [])) [(.t 18), (.t 19)])), (jm 5 20)] []) A111_4)) A111_13)
def A111_1 : AC := (.seq (.seq (.reg [] [(jm 12 4), (jm 13 3), ((jv 14 (.len (.t 13)))), ((jv 15 (.bin .lss (.t 12) (.t 14))))] []) A111_2) A111_3)
def A111_14 : AC := (.seq (.reg [] [(jm 57 3), (jm 2 57)] [.home 3 2]) .ret)
def A111_17 : AC := (.block 0 (.loop A111_1))
def A111_16 : AC := (.seq (.seq (.reg [] [((jv 4 (.mov (jn 1))))] []) A111_17) A111_14)
def A111_15 : AC := (.seq (.reg [.clr [11]] [((jv 8 (.load (.ag [.p]) (.t 1)))), (.mk (some 9) none false (.call (.k (.fn 113 [] [])) [(.t 8)])), ((jv 10 (.bin .add (.t 9) (jn 1)))), (.mk (some 11) none false (.mk (.t 10) (.int .i64 (.ofNat 0)) (.int .i64 (.ofNat 0)))), (jm 3 11)] [.home 11 3]) A111_16)
def A111 : AC := (.seq (.reg [.clr [1]] [(.mk (some 1) none false (.box (.t 0))), ((jv 2 (.mov (.k (.sl .nl .s 0 [])))))] []) A111_15)
def an111 : List An := [{ id := 0, pre := [.clr [1]], ep := [], lin := [], sp := [] }, { id := 1, pre := [.clr [11]], ep := [.home 11 3], lin := [], sp := [] }, { id := 13, pre := [], ep := [.home 3 2], lin := [], sp := [] }]
theorem c111 : cC Try.prog Try.f111.ntmps an111 (Try.f111.body.getD .skip) = some A111 := by kernel_rfl
structure H111 (D : Den) (σ : Sig) (F : Nat) : Prop where
  c113 : ∀ (x0 : (S1 (List Int))) r, i_net_all F x0 = some r → D 113 [Enc.enc x0] = some (Enc.enc (r : Int))
  g113 : σ 113 = some (0, false)
  c142 : ∀ (x0 : (S1 (List Int))) (x1 : Int) r, i_net_parts F x0 x1 = some r → D 142 [Enc.enc x0, Enc.enc x1] = some (Enc.enc (r : (List Int)))
  g142 : σ 142 = some (0, false)
  c143 : ∀ (x0 : (S1 (List Int))) (x1 : (List Int)) (x2 : Int) r, i_net_bestRoot F x0 x1 x2 = some r → D 143 [Enc.enc x0, Enc.enc x1, Enc.enc x2] = some (Enc.enc (r : Int))
  g143 : σ 143 = some (0, false)
abbrev R111 (r : (List Int)) : (Nat → V) → Prop := RR Try.prog [.tmp 2] 0 false (Enc.enc (r : (List Int)))
section
variable {D : Den} {σ : Sig} {F : Nat} {r : (List Int)}
def i_net_treedepths_l1 (F : Nat) (x_1 : (S1 (List Int))) (x_38 : Int) (r_72 : (List Int)) (c1 : (List Int) → Int → Option (List Int)) : Nat → (List Int) → Int → Option (List Int)
  | 0, _, _ => none
  | k + 1, x_91, x_92 =>
    bif decide (x_92 < (r_72.length : Int)) then
      (idx r_72 x_92).bind fun e_97 =>
      (idx x_91 x_38).bind fun e_98 =>
      (idx x_91 e_97).bind fun e_99 =>
      (idx x_91 x_38).bind fun e_100 =>
      (i_net_treedepths_l1 F x_1 x_38 r_72 c1 k) (x_91.set x_38.toNat (if e_99 > e_98 then e_99 else e_98)) (w64 (x_92 + 1))
    else
      c1 x_91 (w64 (x_38 + 1))
theorem t_f111_l1 (H : H111 D σ F) (x_1 : (S1 (List Int))) (x_38 : Int) (r_72 : (List Int)) (c1 : (List Int) → Int → Option (List Int)) (Hc1 : ∀ (x_37 : (List Int)) (x_38 : Int) (s : Nat → V), Facts [(1, (.ref (.bx 1) 0 [] (.agg [(eL x_1.a)]))), (2, (.sl .nl (Enc.shp Int) 0 [])), (3, (oI 3 [] (.of x_37))), (4, (ji x_38))] s → c1 x_37 x_38 = some r → Run D σ (R111 r) (.run A111_1 [.lp A111_1, .bk 0, .sq A111_14]) s) : ∀ (k : Nat) (x_91 : (List Int)) (x_92 : Int) (s : Nat → V), Facts [(1, (.ref (.bx 1) 0 [] (.agg [(eL x_1.a)]))), (2, (.sl .nl (Enc.shp Int) 0 [])), (3, (oI 3 [] (.of x_91))), (4, (ji x_38)), (24, (eL r_72)), (25, (ji (r_72.length : Int))), (26, (ji x_92))] s → i_net_treedepths_l1 F x_1 x_38 r_72 c1 k x_91 x_92 = some r → Run D σ (R111 r) (.run A111_7 [.lp A111_7, .bk 2, .sq (AC.exit 1), .sq A111_12, .bk 1, .sq A111_13, .lp A111_1, .bk 0, .sq A111_14]) s := by
  intro k
  induction k with
  | zero => intro x_91 x_92 s _ h; exact nomatch (h : (none : Option _) = some r)
  | succ k ih =>
    intro x_91 x_92 s hs h
    rw [i_net_treedepths_l1] at h
    obtain ⟨h1, h2, h3, h4, h24, h25, h26⟩ := hs
    refine .seq (rg (g2 26 25 (jb (decide (x_92 < (r_72.length : Int)))) h26 h25 fun h27 => ?_))
    refine gq (.nsq (.seq (run_cond (t := decide (x_92 < (r_72.length : Int))) h27 h (fun h => ?_) (fun h => ?_))))
    · refine .skip (.nsq (.seq (.block (.seq (rg ?_)))))
      obtain ⟨e_97, E_e_97, h⟩ := bind_some h
      refine gv (.ref .sh 0 [] (ji e_97)) (ev_idx (t := .sh) (lo := 0) (xs := r_72) h24 h26 E_e_97 rfl rfl) fun h28 => ?_
      refine g1 28 (ji e_97) h28 fun h29 => ?_
      refine gm h29 fun h7 => gq (.nsq (rg (gm h3 fun h30 => gm h4 fun h31 => gm h3 fun h32 => gm h4 fun h33 => ?_)))
      obtain ⟨e_98, E_e_98, h⟩ := bind_some h
      refine gv (.ref (.at 3 []) x_38.toNat [] (ji e_98)) (ev_idxO (o := (.of x_91)) h32 h33 E_e_98 rfl) fun h34 => ?_
      refine g1 34 (ji e_98) h34 fun h35 => ?_
      refine gm h3 fun h36 => gm h7 fun h37 => ?_
      obtain ⟨e_99, E_e_99, h⟩ := bind_some h
      refine gv (.ref (.at 3 []) e_97.toNat [] (ji e_99)) (ev_idxO (o := (.of x_91)) h36 h37 E_e_99 rfl) fun h38 => ?_
      refine g1 38 (ji e_99) h38 fun h39 => ?_
      refine g2 35 39 (ji (if e_99 > e_98 then e_99 else e_98)) h35 h39 fun h40 => ?_
      obtain ⟨e_100, E_e_100, h⟩ := bind_some h
      refine gv (.ref (.at 3 []) x_38.toNat [] (ji e_100)) (ev_idxO (o := (.of x_91)) h30 h31 E_e_100 rfl) fun h41 => ?_
      refine g_store (ji (if e_99 > e_98 then e_99 else e_98)) (rd_of h41 rfl) (rd_of h40 rfl) (by refine ⟨by decide, by decide, rfl, rfl, rfl, ?_⟩; first | rfl | (simp [V.toks, V.tokss, Enc.toks_enc]; done) | simp [V.toks, V.tokss, Enc.toks_enc, tok_memP]) ?_
      refine gz [(1, (.ref (.bx 1) 0 [] (.agg [(eL x_1.a)]))), (2, (.sl .nl (Enc.shp Int) 0 [])), (3, _), (4, (ji x_38)), (24, (eL r_72)), (25, (ji (r_72.length : Int))), (26, (ji x_92))] ⟨(keep_mut h1 (mut_ref_ne rfl rfl (mut_agg (muts_cons (Enc.mut_enc _ _ _ _ (x_1.a : List Int)) rfl)))), (keep_mut h2 rfl), (keep_mut h3 mut_own), (keep_mut h4 rfl), (keep_mut h24 (Enc.mut_enc _ _ _ _ (r_72 : List Int))), (keep_mut h25 rfl), (keep_mut h26 rfl)⟩ ?_
      rintro s ⟨h1, h2, h3, h4, h24, h25, h26⟩
      refine .nbk (.nsq (rg (g1 26 (ji (w64 (x_92 + 1))) h26 fun h42 => ?_)))
      refine gm h42 fun h26 => gq (.nlp ?_)
      exact ih (x_91.set x_38.toNat (if e_99 > e_98 then e_99 else e_98)) (w64 (x_92 + 1)) _ ⟨h1, h2, h3, h4, h24, h25, h26⟩ h
    refine .exit (.esq (.elp (.ebk (.nsq (.exit (.esq (.ebk (.nsq (rg (gm h4 fun h16 => g1 16 (ji (w64 (x_38 + 1))) h16 fun h17 => ?_))))))))))
    refine gm h17 fun h4 => gq (.nlp ?_)
    exact Hc1 x_91 (w64 (x_38 + 1)) _ ⟨h1, h2, h3, h4⟩ h
def i_net_treedepths_l2 (F : Nat) (x_1 : (S1 (List Int)))  : Nat → (List Int) → Int → Option (List Int)
  | 0, _, _ => none
  | k + 1, x_37, x_38 =>
    bif decide (x_38 < (x_37.length : Int)) then
      (i_net_parts F x_1 x_38).bind fun r_72 =>
      bif decide ((r_72.length : Int) > 1) then
        i_net_treedepths_l1 F x_1 x_38 r_72 (i_net_treedepths_l2 F x_1 k) F x_37 0
      else
        (i_net_bestRoot F x_1 x_37 x_38).bind fun r_101 =>
        (shlI .i64 1 r_101).bind fun q_102 =>
        (idx x_37 (iandNot .i64 x_38 q_102)).bind fun e_103 =>
        (idx x_37 x_38).bind fun e_104 =>
        (i_net_treedepths_l2 F x_1 k) (x_37.set x_38.toNat (w64 (e_103 + 1))) (w64 (x_38 + 1))
    else
      some x_37
theorem t_f111_l2 (H : H111 D σ F) (x_1 : (S1 (List Int)))  : ∀ (k : Nat) (x_37 : (List Int)) (x_38 : Int) (s : Nat → V), Facts [(1, (.ref (.bx 1) 0 [] (.agg [(eL x_1.a)]))), (2, (.sl .nl (Enc.shp Int) 0 [])), (3, (oI 3 [] (.of x_37))), (4, (ji x_38))] s → i_net_treedepths_l2 F x_1 k x_37 x_38 = some r → Run D σ (R111 r) (.run A111_1 [.lp A111_1, .bk 0, .sq A111_14]) s := by
  intro k
  induction k with
  | zero => intro x_37 x_38 s _ h; exact nomatch (h : (none : Option _) = some r)
  | succ k ih =>
    intro x_37 x_38 s hs h
    rw [i_net_treedepths_l2] at h
    obtain ⟨h1, h2, h3, h4⟩ := hs
    refine .seq (.seq (rg (gm h4 fun h12 => gm h3 fun h13 => gv (ji (x_37.length : Int)) (ev_lenO (o := .of x_37) h13) fun h14 => ?_)))
    refine g2 12 14 (jb (decide (x_38 < (x_37.length : Int)))) h12 h14 fun h15 => ?_
    refine gq (.nsq (run_cond (t := decide (x_38 < (x_37.length : Int))) h15 h (fun h => ?_) (fun h => ?_)))
    · refine .skip (.nsq (.seq (.block (.seq (rg (g1 1 (.agg [(eL x_1.a)]) h1 fun h18 => ?_))))))
      refine gm h4 fun h19 => ?_
      obtain ⟨r_72, E_r_72, h⟩ := bind_some h
      refine g_call (m := 0) (al := false) (r := (Enc.enc (r_72 : (List Int)))) [Enc.enc (x_1 : (S1 (List Int))), Enc.enc (x_38 : Int)] (ta_cons (v := (.agg [(eL x_1.a)])) h18 rfl (Enc.erase_enc (x_1 : (S1 (List Int)))) (ta_cons (v := (ji x_38)) h19 rfl rfl ta_nil)) (H.c142 _ _ _ E_r_72) H.g142 rfl rfl rfl rfl ?_
      refine gm (rfl : (_ : V) = (eL r_72)) fun h5 => ?_
      refine gq (.nsq (.seq (.seq (rg (gm h5 fun h21 => gv (ji (r_72.length : Int)) (ev_len (xs := r_72) h21) fun h22 => ?_)))))
      refine g1 22 (jb (decide ((r_72.length : Int) > 1))) h22 fun h23 => ?_
      refine gq (.nsq (run_cond (t := decide ((r_72.length : Int) > 1)) h23 h (fun h => ?_) (fun h => ?_)))
      · refine .seq (.seq (rg (gm h5 fun h24 => gv (ji (r_72.length : Int)) (ev_len (xs := r_72) h24) fun h25 => ?_)))
        refine g0 (ji 0) fun h26 => gq (.nsq (.block (.loop ?_)))
        exact t_f111_l1 H x_1 x_38 r_72 (i_net_treedepths_l2 F x_1 k) ih F x_37 0 _ ⟨h1, h2, h3, h4, h24, h25, h26⟩ h
      refine .skip (.nsq (rg (gm h3 fun h43 => gm h4 fun h44 => gm h3 fun h45 => gm h4 fun h46 => g1 1 (.agg [(eL x_1.a)]) h1 fun h47 => ?_)))
      refine gm h3 fun h48 => gm h4 fun h49 => ?_
      obtain ⟨r_101, E_r_101, h⟩ := bind_some h
      refine g_call (m := 0) (al := false) (r := (Enc.enc (r_101 : Int))) [Enc.enc (x_1 : (S1 (List Int))), Enc.enc (x_37 : (List Int)), Enc.enc (x_38 : Int)] (ta_cons (v := (.agg [(eL x_1.a)])) h47 rfl (Enc.erase_enc (x_1 : (S1 (List Int)))) (ta_cons (v := (oI 3 [] (.of x_37))) h48 rfl (erase_encO (o := .of x_37)) (ta_cons (v := (ji x_38)) h49 rfl rfl ta_nil))) (H.c143 _ _ _ _ E_r_101) H.g143 rfl rfl rfl rfl ?_
      obtain ⟨q_102, E_q_102, h⟩ := bind_some h
      refine gv (ji q_102) (ev_shl rfl rfl E_q_102) fun h51 => ?_
      refine g2 46 51 (ji (iandNot .i64 x_38 q_102)) h46 h51 fun h52 => ?_
      obtain ⟨e_103, E_e_103, h⟩ := bind_some h
      refine gv (.ref (.at 3 []) ((iandNot .i64 x_38 q_102).toNat) [] (ji e_103)) (ev_idxO (o := (.of x_37)) h45 h52 E_e_103 rfl) fun h53 => ?_
      refine g1 53 (ji e_103) h53 fun h54 => ?_
      refine g1 54 (ji (w64 (e_103 + 1))) h54 fun h55 => ?_
      obtain ⟨e_104, E_e_104, h⟩ := bind_some h
      refine gv (.ref (.at 3 []) x_38.toNat [] (ji e_104)) (ev_idxO (o := (.of x_37)) h43 h44 E_e_104 rfl) fun h56 => ?_
      refine g_store (ji (w64 (e_103 + 1))) (rd_of h56 rfl) (rd_of h55 rfl) (by refine ⟨by decide, by decide, rfl, rfl, rfl, ?_⟩; first | rfl | (simp [V.toks, V.tokss, Enc.toks_enc]; done) | simp [V.toks, V.tokss, Enc.toks_enc, tok_memP]) ?_
      refine gz [(1, (.ref (.bx 1) 0 [] (.agg [(eL x_1.a)]))), (2, (.sl .nl (Enc.shp Int) 0 [])), (3, _), (4, (ji x_38))] ⟨(keep_mut h1 (mut_ref_ne rfl rfl (mut_agg (muts_cons (Enc.mut_enc _ _ _ _ (x_1.a : List Int)) rfl)))), (keep_mut h2 rfl), (keep_mut h3 mut_own), (keep_mut h4 rfl)⟩ ?_
      rintro s ⟨h1, h2, h3, h4⟩
      refine .nbk (.nsq (rg (gm h4 fun h16 => g1 16 (ji (w64 (x_38 + 1))) h16 fun h17 => ?_)))
      refine gm h17 fun h4 => gq (.nlp ?_)
      exact ih (x_37.set x_38.toNat (w64 (e_103 + 1))) (w64 (x_38 + 1)) _ ⟨h1, h2, h3, h4⟩ h
    refine .exit (.esq (.elp (.ebk (.nsq (.seq (rg (gm h3 fun h57 => gm h57 fun h2 => g_end ?_)))))))
    refine e_home (r := 3) (x := 2) (v := _) h2 rfl (fun s_4 hg_4 => ?_)
    refine ez [(2, (oI 2 [] (.of x_37)))] (hg_4 2 _ _ h2 (map_encO (r := 3) (p := []) rfl rfl)) ?_
    rintro s h2
    refine .nsq (.ret ?_)
    have hr := Option.some.inj h
    subst hr
    exact rrA (res_tmp h2) (fin_retF (fin_own (o := .of x_37)) (mine_own rfl))
def i_net_treedepths (F : Nat) (x_1 : (S1 (List Int))) : Option (List Int) :=
  (i_net_all F x_1).bind fun r_2 =>
  (mkN (w64 (r_2 + 1)) (0 : Int)).bind fun mk_3 =>
  i_net_treedepths_l2 F x_1 F mk_3 1
theorem t111 (H : H111 D σ F) (x_1 : (S1 (List Int))) (s : Nat → V) (hs : Facts [(0, (.agg [(eL x_1.a)]))] s) (h : i_net_treedepths F x_1 = some r) : Run D σ (R111 r) (.run A111 []) s := by
  unfold i_net_treedepths at h
  have h0 := hs
  refine .seq (run_reg ?_)
  refine e_clr ?_
  refine ez [(0, _), (1, _)] ⟨(keep_clear (pk := [1]) h0 rfl (map_agg (maps_cons me maps_nil))), (gone_clear (pk := [1]) (t := 1) rfl)⟩ ?_
  rintro s ⟨h0, h1⟩
  refine g_box (.agg [(eL x_1.a)]) (rd_of h0 rfl) h1 rfl ?_
  refine g0 (.sl .nl (Enc.shp Int) 0 []) fun h2 => ?_
  refine gq (.nsq (.seq (run_reg ?_)))
  refine e_clr ?_
  refine ez [(1, _), (2, _), (11, _)] ⟨(keep_clear (pk := [11]) rfl rfl (map_bx rfl (map_agg (maps_cons me maps_nil)))), (keep_clear (pk := [11]) h2 rfl rfl), (gone_clear (pk := [11]) (t := 11) rfl)⟩ ?_
  rintro s ⟨h1, h2, h11⟩
  refine g1 1 (.agg [(eL x_1.a)]) h1 fun h8 => ?_
  obtain ⟨r_2, E_r_2, h⟩ := bind_some h
  refine g_call (m := 0) (al := false) (r := (Enc.enc (r_2 : Int))) [Enc.enc (x_1 : (S1 (List Int)))] (ta_cons (v := (.agg [(eL x_1.a)])) h8 rfl (Enc.erase_enc (x_1 : (S1 (List Int)))) ta_nil) (H.c113 _ _ E_r_2) H.g113 rfl rfl rfl rfl ?_
  refine g1 9 (ji (w64 (r_2 + 1))) (rfl : (_ : V) = (ji r_2)) fun h10 => ?_
  obtain ⟨mk_3, E_mk_3, h⟩ := bind_some h
  refine g_mk (0 : Int) h10 rfl h11 E_mk_3 ?_
  refine gm (rfl : (_ : V) = (oI 11 [] (.of mk_3))) fun h3 => ?_
  refine g_end ?_
  refine e_home (r := 11) (x := 3) (v := _) h3 rfl (fun s_3 hg_3 => ?_)
  refine ez [(1, (.ref (.bx 1) 0 [] (.agg [(eL x_1.a)]))), (2, (.sl .nl (Enc.shp Int) 0 [])), (3, (oI 3 [] (.of mk_3)))] ⟨(hg_3 1 _ _ h1 (map_bx rfl (map_agg (maps_cons me maps_nil)))), (hg_3 2 _ (.sl .nl (Enc.shp Int) 0 []) h2 rfl), (hg_3 3 _ _ h3 (map_encO (r := 11) (p := []) rfl rfl))⟩ ?_
  rintro s ⟨h1, h2, h3⟩
  refine .nsq (.seq (.seq (rg (g0 (ji 1) fun h4 => gq (.nsq (.block (.loop ?_)))))))
  exact t_f111_l2 H x_1 F mk_3 1 _ ⟨h1, h2, h3, h4⟩ h
end
def e111 (F : Nat) : Ent := ent 111 (fun (x : ((S1 (List Int)) × Unit)) => i_net_treedepths F x.1) (fun (r : (List Int)) => (Enc.enc (r : (List Int)))) 0 false []
theorem p111 {F : Nat} {x0 : (S1 (List Int))} {r : (List Int)} (h : i_net_treedepths F x0 = some r) : (e111 F).den [Enc.enc x0] = some (Enc.enc (r : (List Int))) := ent_put (x0, ()) h
theorem o111 {D : Den} {σ : Sig} {F : Nat} (hF : Fits2 Try.prog D σ) (H : H111 D σ F) : (e111 F).Ok Try.prog := by
  refine ok_of (f := 111) (show unk 111 = 111 from rfl) (fun args r h => ?_) ⟨Try.f111, Try.func111, rfl, rfl⟩
  obtain ⟨⟨x0, _⟩, y, rfl, hy, rfl⟩ := da_open h
  exact contract_run hF (by kernel_rfl) Try.func111 rfl c111 (show 1 ≤ Try.f111.ntmps by decide) (t111 H x0 _ rfl hy)
/- (loop.example/g01109/impl.net).size -/
def A127_1 : AC := (.seq (.reg [] [((jv 3 (.fld (.t 1) 0 0))), ((jv 4 (.load .p (.t 3)))), ((jv 5 (.len (.t 4)))), (jm 2 5)] []) .ret)
def A127 : AC := (.seq (.reg [.clr [1]] [(.mk (some 1) none false (.box (.t 0))), ((jv 2 (.mov (jn 0))))] []) A127_1)
def an127 : List An := [{ id := 0, pre := [.clr [1]], ep := [], lin := [], sp := [] }]
theorem c127 : cC Try.prog Try.f127.ntmps an127 (Try.f127.body.getD .skip) = some A127 := by kernel_rfl
structure H127 (D : Den) (σ : Sig) (F : Nat) : Prop where
  mk ::
abbrev R127 (r : Int) : (Nat → V) → Prop := RR Try.prog [.tmp 2] 0 false (Enc.enc (r : Int))
section
variable {D : Den} {σ : Sig} {F : Nat} {r : Int}
def i_net_size (F : Nat) (x_1 : (S1 (List Int))) : Option Int :=
  some (x_1.a.length : Int)
theorem t127 (H : H127 D σ F) (x_1 : (S1 (List Int))) (s : Nat → V) (hs : Facts [(0, (.agg [(eL x_1.a)]))] s) (h : i_net_size F x_1 = some r) : Run D σ (R127 r) (.run A127 []) s := by
  unfold i_net_size at h
  have h0 := hs
  refine .seq (run_reg ?_)
  refine e_clr ?_
  refine ez [(0, _), (1, _)] ⟨(keep_clear (pk := [1]) h0 rfl (map_agg (maps_cons me maps_nil))), (gone_clear (pk := [1]) (t := 1) rfl)⟩ ?_
  rintro s ⟨h0, h1⟩
  refine g_box (.agg [(eL x_1.a)]) (rd_of h0 rfl) h1 rfl ?_
  refine g0 (ji 0) fun h2 => gq (.nsq (.seq (rg (g1 1 (.ref (.bx 1) 0 [0] (eL x_1.a)) (rfl : (_ : V) = (.ref (.bx 1) 0 [] (.agg [(eL x_1.a)]))) fun h3 => ?_))))
  refine g1 3 (eL x_1.a) h3 fun h4 => ?_
  refine gv (ji (x_1.a.length : Int)) (ev_len (xs := x_1.a) h4) fun h5 => ?_
  refine gm h5 fun h2 => gq (.nsq (.ret ?_))
  have hr := Option.some.inj h
  subst hr
  exact rrA (res_tmp h2) rfl
end
def e127 (F : Nat) : Ent := ent 127 (fun (x : ((S1 (List Int)) × Unit)) => i_net_size F x.1) (fun (r : Int) => (Enc.enc (r : Int))) 0 false []
theorem p127 {F : Nat} {x0 : (S1 (List Int))} {r : Int} (h : i_net_size F x0 = some r) : (e127 F).den [Enc.enc x0] = some (Enc.enc (r : Int)) := ent_put (x0, ()) h
theorem o127 {D : Den} {σ : Sig} {F : Nat} (hF : Fits2 Try.prog D σ) (H : H127 D σ F) : (e127 F).Ok Try.prog := by
  refine ok_of (f := 127) (show unk 127 = 127 from rfl) (fun args r h => ?_) ⟨Try.f127, Try.func127, rfl, rfl⟩
  obtain ⟨⟨x0, _⟩, y, rfl, hy, rfl⟩ := da_open h
  exact contract_run hF (by kernel_rfl) Try.func127 rfl c127 (show 1 ≤ Try.f127.ntmps by decide) (t127 H x0 _ rfl hy)
/- (loop.example/g01109/impl.net).bestForest$1 -/
def A141_2 : AC := (.cond (.t 16) .skip (.exit 0))
def A141_6 : AC := (.reg [] [((jv 27 (.load .p (.t 5)))), (jm 28 9), (jm 29 10), ((jv 30 (.bin .shl (jn 1) (.t 29)))), ((jv 31 (.bin .andNot (.t 28) (.t 30)))), (jm 32 10), (.mk (some 33) none false (.callT (.t 27) [(.t 31), (.t 32)] [4, 5]))] [])
def A141_5 : AC := (.seq (.reg [] [((jv 23 (.load .p (.t 4)))), (jm 24 10), (jm 25 1), ((jv 26 (.idx (.t 23) (.t 24) 1))), (.mk none none false (.store .s (.t 26) (.t 25)))] []) A141_6)
def A141_4 : AC := (.seq (.reg [] [((jv 19 (.load (.ag [.p]) (.t 2)))), ((jv 20 (.load .p (.t 3)))), (jm 21 9), (.mk (some 22) none false (.call (.k (.fn 143 [] [])) [(.t 19), (.t 20), (.t 21)])), (jm 10 22)] []) A141_5)
def A141_7 : AC := (.reg [] [((jv 34 (.bin .add (.t 15) (jn 1)))), (jm 15 34)] [])
def A141_3 : AC := (.seq (.block 1 (.seq (.reg [] [((jv 17 (.idx (.t 13) (.t 15) 1))), ((jv 18 (.load .s (.t 17)))), (jm 9 18)] []) A141_4)) A141_7)
def A141_1 : AC := (.seq (.reg [] [((jv 16 (.bin .lss (.t 15) (.t 14))))] []) (.seq A141_2 A141_3))
def A141 : AC := (.seq (.reg [] [((jv 11 (.load (.ag [.p]) (.t 2)))), (jm 12 0), (.mk (some 13) none false (.call (.k (.fn 142 [] [])) [(.t 11), (.t 12)])), ((jv 14 (.len (.t 13)))), ((jv 15 (.mov (jn 0))))] []) (.block 0 (.loop A141_1)))
def an141 : List An := [{ id := 5, pre := [], ep := [], lin := [], sp := [7000004, 7000005] }]
theorem c141 : cC Try.prog Try.f141.ntmps an141 (Try.f141.body.getD .skip) = some A141 := by kernel_rfl
structure H141 (D : Den) (σ : Sig) (F : Nat) (w : S1 (List Int)) (d : List Int) (rc : Int → Int → List Int → Option (List Int)) : Prop where
  c142 : ∀ (x0 : (S1 (List Int))) (x1 : Int) r, i_net_parts F x0 x1 = some r → D 142 [Enc.enc x0, Enc.enc x1] = some (Enc.enc (r : (List Int)))
  g142 : σ 142 = some (0, false)
  c143 : ∀ (x0 : (S1 (List Int))) (x1 : (List Int)) (x2 : Int) r, i_net_bestRoot F x0 x1 x2 = some r → D 143 [Enc.enc x0, Enc.enc x1, Enc.enc x2] = some (Enc.enc (r : Int))
  g143 : σ 143 = some (0, false)
  c141 : ∀ (a b : Int) (ps r : List Int), rc a b ps = some r → D 141 [ji a, ji b, .ref .sh 0 [] (Enc.enc w), .ref .sh 0 [] (Enc.enc d), grL pinR (pinR + 1) [] ps, grV pinR (pinR + 2) 141 (Enc.enc w) (Enc.enc d)] = some (.tup [.tup [], .tup [grL pinR (pinR + 1) [] r, grV pinR (pinR + 2) 141 (Enc.enc w) (Enc.enc d)]])
  g141 : σ 141 = some (recM, false)
abbrev R141 (w : S1 (List Int)) (d : List Int) (r : List Int) : (Nat → V) → Prop := RT Try.prog [] (.tup []) [grL pinR (pinR + 1) [] r, grV pinR (pinR + 2) 141 (Enc.enc w) (Enc.enc d)]
section
variable {D : Den} {σ : Sig} {F : Nat} {w : S1 (List Int)} {d : List Int} {rc : Int → Int → List Int → Option (List Int)} {r : List Int}
def i_net_grow_l1 (F : Nat) (w : S1 (List Int)) (d : List Int) (rc : Int → Int → List Int → Option (List Int)) (parent : Int) (parts : List Int) : Nat → List Int → Int → Option (List Int)
  | 0, _, _ => none
  | k + 1, ps, i =>
    bif decide (i < (parts.length : Int)) then
      (idx parts i).bind fun p =>
      (i_net_bestRoot F w d p).bind fun root =>
      (idx ps root).bind fun _ =>
      (shlI .i64 1 root).bind fun q =>
      (rc (iandNot .i64 p q) root (ps.set root.toNat parent)).bind fun ps2 =>
      i_net_grow_l1 F w d rc parent parts k ps2 (w64 (i + 1))
    else
      some ps
theorem t_f141_l1 (H : H141 D σ F w d rc) (parent : Int) (parts : List Int) : ∀ (k : Nat) (ps : List Int) (i : Int) (s : Nat → V), Facts [(1, (ji parent)), (2, (.ref .sh 0 [] (Enc.enc w))), (3, (.ref .sh 0 [] (eL d))), (4, grL pinR (pinR + 1) [] ps), (5, grV pinR (pinR + 2) 141 (Enc.enc w) (eL d)), (13, (eL parts)), (14, (ji (parts.length : Int))), (15, (ji i))] s →
    i_net_grow_l1 F w d rc parent parts k ps i = some r → Run D σ (R141 w d r) (.run A141_1 [.lp A141_1, .bk 0]) s := by
  intro k
  induction k with
  | zero => intro ps i s _ h; exact nomatch (h : (none : Option _) = some r)
  | succ k ih =>
    intro ps i s hs h
    rw [i_net_grow_l1] at h
    obtain ⟨h1, h2, h3, h4, h5, h13, h14, h15⟩ := hs
    refine .seq (rg (g2 15 14 (jb (decide (i < (parts.length : Int)))) h15 h14 fun h16 => ?_))
    refine gq (.nsq (.seq (run_cond (t := decide (i < (parts.length : Int))) h16 h (fun h => ?_) (fun h => ?_))))
    · refine .skip (.nsq (.seq (.block (.seq (rg ?_)))))
      obtain ⟨p, E_p, h⟩ := bind_some h
      refine gv (.ref .sh 0 [] (ji p)) (ev_idx (t := .sh) (lo := 0) (xs := parts) h13 h15 E_p rfl rfl) fun h17 => ?_
      refine g1 17 (ji p) h17 fun h18 => gm h18 fun h9 => gq (.nsq (.seq (rg (g1 2 (Enc.enc w) h2 fun h19 => g1 3 (eL d) h3 fun h20 => gm h9 fun h21 => ?_))))
      obtain ⟨root, E_root, h⟩ := bind_some h
      refine g_call (m := 0) (al := false) (r := (Enc.enc (root : Int))) [Enc.enc (w : S1 (List Int)), Enc.enc (d : List Int), Enc.enc (p : Int)] (ta_cons (v := Enc.enc w) h19 rfl (Enc.erase_enc (w : S1 (List Int))) (ta_cons (v := eL d) h20 rfl (Enc.erase_enc (d : List Int)) (ta_cons (v := ji p) h21 rfl rfl ta_nil))) (H.c143 _ _ _ _ E_root) H.g143 rfl rfl rfl rfl ?_
      refine gm (rfl : (_ : V) = (ji root)) fun h10 => gq (.nsq (.seq (rg ?_)))
      obtain ⟨e, E_e, h⟩ := bind_some h
      refine g1 4 (oI (pinR + 1) [] (.of ps)) h4 fun h23 => gm h10 fun h24 => gm h1 fun h25 => ?_
      refine gv (.ref (.at (pinR + 1) []) root.toNat [] (ji e)) (ev_idxO (o := (.of ps)) h23 h24 E_e rfl) fun h26 => ?_
      refine g_store (ji parent) (rd_of h26 rfl) (rd_of h25 rfl) (by refine ⟨by decide, by decide, rfl, rfl, rfl, ?_⟩; first | rfl | simp [V.toks, V.tokss, Enc.toks_enc]) ?_
      refine gz [(1, (ji parent)), (2, (.ref .sh 0 [] (Enc.enc w))), (3, (.ref .sh 0 [] (eL d))), (4, grL pinR (pinR + 1) [] (ps.set root.toNat parent)), (5, grV pinR (pinR + 2) 141 (Enc.enc w) (eL d)), (9, (ji p)), (10, (ji root)), (13, (eL parts)), (14, (ji (parts.length : Int))), (15, (ji i))] ⟨(keep_mut h1 rfl), (keep_mut h2 rfl), (keep_mut h3 rfl), (keep_mut h4 mut_grL), (keep_mut h5 mut_grV), (keep_mut h9 rfl), (keep_mut h10 rfl), (keep_mut h13 (Enc.mut_enc _ _ _ _ (parts : List Int))), (keep_mut h14 rfl), (keep_mut h15 rfl)⟩ ?_
      rintro s ⟨h1, h2, h3, h4, h5, h9, h10, h13, h14, h15⟩
      refine .nsq (rg (g1 5 (.fn 141 [] (grE pinR (pinR + 2) (Enc.enc w) (eL d))) h5 fun h27 => gm h9 fun h28 => gm h10 fun h29 => ?_))
      obtain ⟨q, E_q, h⟩ := bind_some h
      refine gv (ji q) (ev_shl (x := jn 1) (y := .t 29) rfl h29 E_q) fun h30 => ?_
      refine g2 28 30 (ji (iandNot .i64 p q)) h28 h30 fun h31 => gm h10 fun h32 => ?_
      obtain ⟨ps2, E_ps2, h⟩ := bind_some h
      refine g_rec (xs := ps.set root.toNat parent) (ys := ps2) (vs := [ji (iandNot .i64 p q), ji root]) (al := false) h27 h4 h5 (by decide) (by decide) (rdAll_cons h31 rfl (rdAll_cons h32 rfl rdAll_nil)) rfl (fun _ => rfl) (H.c141 _ _ _ _ E_ps2) H.g141 (fun s1 k4 k5 kk => ?_)
      refine gz [(1, (ji parent)), (2, (.ref .sh 0 [] (Enc.enc w))), (3, (.ref .sh 0 [] (eL d))), (4, grL pinR (pinR + 1) [] ps2), (5, grV pinR (pinR + 2) 141 (Enc.enc w) (eL d)), (13, (eL parts)), (14, (ji (parts.length : Int))), (15, (ji i))] ⟨kk 1 _ (by decide) (by decide) h1 (fun _ => rfl), kk 2 _ (by decide) (by decide) h2 (fun _ => rfl), kk 3 _ (by decide) (by decide) h3 (fun _ => rfl), k4, k5, kk 13 _ (by decide) (by decide) h13 (fun f => Enc.map_enc f parts), kk 14 _ (by decide) (by decide) h14 (fun _ => rfl), kk 15 _ (by decide) (by decide) h15 (fun _ => rfl)⟩ ?_
      rintro s ⟨h1, h2, h3, h4, h5, h13, h14, h15⟩
      refine .nbk (.nsq (rg (g1 15 (ji (w64 (i + 1))) h15 fun h34 => ?_)))
      refine gm h34 fun h15 => gq (.nlp ?_)
      exact ih ps2 (w64 (i + 1)) _ ⟨h1, h2, h3, h4, h5, h13, h14, h15⟩ h
    · have hr := Option.some.inj h
      subst hr
      refine .exit (.esq (.elp (.ebk (.nil ⟨rfl, ?_⟩))))
      intro u hu
      simp only [List.mem_cons, List.not_mem_nil, or_false] at hu
      rcases hu with rfl | rfl
      · exact ⟨4, h4⟩
      · exact ⟨5, h5⟩
def i_net_grow_b (F : Nat) (w : S1 (List Int)) (d : List Int) (rc : Int → Int → List Int → Option (List Int)) (x_1 : Int) (x_2 : Int) (x_3 : List Int) : Option (List Int) :=
  (i_net_parts F w x_1).bind fun parts =>
  i_net_grow_l1 F w d rc x_2 parts F x_3 0
theorem t141 (H : H141 D σ F w d rc) (x_1 x_2 : Int) (x_3 : List Int) (s : Nat → V) (hs : Facts [(0, (ji x_1)), (1, (ji x_2)), (2, (.ref .sh 0 [] (Enc.enc w))), (3, (.ref .sh 0 [] (eL d))), (4, grL pinR (pinR + 1) [] x_3), (5, grV pinR (pinR + 2) 141 (Enc.enc w) (eL d))] s) (h : i_net_grow_b F w d rc x_1 x_2 x_3 = some r) : Run D σ (R141 w d r) (.run A141 []) s := by
  unfold i_net_grow_b at h
  obtain ⟨h0, h1, h2, h3, h4, h5⟩ := hs
  refine .seq (rg (g1 2 (Enc.enc w) h2 fun h11 => gm h0 fun h12 => ?_))
  obtain ⟨parts, E_parts, h⟩ := bind_some h
  refine g_call (m := 0) (al := false) (r := (Enc.enc (parts : List Int))) [Enc.enc (w : S1 (List Int)), Enc.enc (x_1 : Int)] (ta_cons (v := Enc.enc w) h11 rfl (Enc.erase_enc (w : S1 (List Int))) (ta_cons (v := ji x_1) h12 rfl rfl ta_nil)) (H.c142 _ _ _ E_parts) H.g142 rfl rfl rfl rfl ?_
  refine gv (ji (parts.length : Int)) (ev_len (xs := parts) rfl) fun h14 => ?_
  refine g0 (ji 0) fun h15 => gq (.nsq (.block (.loop ?_)))
  exact t_f141_l1 H x_2 parts F x_3 0 _ ⟨h1, h2, h3, h4, h5, rfl, h14, h15⟩ h
end
def i_net_grow_r (F : Nat) (w : S1 (List Int)) (d : List Int) : Nat → Int → Int → List Int → Option (List Int)
  | 0, _, _, _ => none
  | k + 1, a, b, ps => i_net_grow_b F w d (i_net_grow_r F w d k) a b ps
def i_net_grow (F : Nat) (w : S1 (List Int)) (d : List Int) (a b : Int) (ps : List Int) : Option (List Int) := i_net_grow_r F w d F a b ps
/-- where both tell the same variables -/
def grow_den (f : S1 (List Int) → List Int → Int → Int → List Int → Option (List Int)) (x : Int × Int × Rf (S1 (List Int)) × Rf (List Int) × Pb × Gb 141 (S1 (List Int)) (List Int) × Unit) : Option (Pb × Gb 141 (S1 (List Int)) (List Int)) :=
  if x.2.2.2.2.2.1.a.a = x.2.2.1.v.a ∧ x.2.2.2.2.2.1.b = x.2.2.2.1.v then (f x.2.2.1.v x.2.2.2.1.v x.1 x.2.1 x.2.2.2.2.1.v).map fun r => (⟨r⟩, x.2.2.2.2.2.1) else none
def e141 (F k : Nat) : Ent := ent 141 (grow_den (fun w d => i_net_grow_r F w d k)) (fun r => .tup [.tup [], .tup [Arg.arg r.1, Arg.arg r.2]]) recM false []
theorem p141 {F k : Nat} {w : S1 (List Int)} {d : List Int} {a b : Int} {ps r : List Int} (h : i_net_grow_r F w d k a b ps = some r) : (e141 F k).den [ji a, ji b, .ref .sh 0 [] (Enc.enc w), .ref .sh 0 [] (Enc.enc d), grL pinR (pinR + 1) [] ps, grV pinR (pinR + 2) 141 (Enc.enc w) (Enc.enc d)] = some (.tup [.tup [], .tup [grL pinR (pinR + 1) [] r, grV pinR (pinR + 2) 141 (Enc.enc w) (Enc.enc d)]]) :=
  ent_put (f := grow_den (fun w d => i_net_grow_r F w d k)) (t := fun r => .tup [.tup [], .tup [Arg.arg r.1, Arg.arg r.2]]) ((a, b, ⟨w⟩, ⟨d⟩, ⟨ps⟩, ⟨w, d⟩, ()) : Int × Int × Rf (S1 (List Int)) × Rf (List Int) × Pb × Gb 141 (S1 (List Int)) (List Int) × Unit) (r := (⟨r⟩, ⟨w, d⟩)) (by simp [grow_den, h])
theorem z141 {F : Nat} : (e141 F 0).Ok Try.prog := by
  refine ok_of (f := 141) (show unk 141 = 141 from rfl) (fun args r h => ?_) ⟨Try.f141, Try.func141, rfl, rfl⟩
  obtain ⟨x, y, rfl, hy, rfl⟩ := da_open h
  simp only [grow_den, i_net_grow_r, Option.map_none] at hy
  split at hy <;> cases hy
theorem o141 {D : Den} {σ : Sig} {F k : Nat} (hF : Fits2 Try.prog D σ) (H : ∀ w d, H141 D σ F w d (i_net_grow_r F w d k)) : (e141 F (k + 1)).Ok Try.prog := by
  refine ok_of (f := 141) (show unk 141 = 141 from rfl) (fun args r h => ?_) ⟨Try.f141, Try.func141, rfl, rfl⟩
  obtain ⟨⟨a, b, ⟨w⟩, ⟨d⟩, ⟨ps⟩, ⟨⟨w'⟩, d'⟩, _⟩, y, rfl, hy, rfl⟩ := da_open h
  simp only [grow_den] at hy
  split at hy
  · rename_i e
    obtain ⟨e1, rfl⟩ := e
    obtain ⟨w⟩ := w
    simp only at e1
    subst e1
    simp only [Option.map_eq_some_iff] at hy
    obtain ⟨z, hz, rfl⟩ := hy
    exact contractT_run hF (by kernel_rfl) Try.func141 rfl c141 rfl (show 6 ≤ Try.f141.ntmps by decide) (by decide) (t141 (H _ _) a b ps _ ⟨rfl, rfl, rfl, rfl, rfl, rfl⟩ hz)
  · cases hy
/- (loop.example/g01109/impl.net).bestForest -/
def A79_6 : AC := (.seq (.reg [] [((jv 16 (.load .p (.t 4)))), (jm 2 16)] []) .ret)
def A79_5 : AC := (.seq (.reg [] [((jv 12 (.load .p (.t 5)))), ((jv 13 (.load (.ag [.p]) (.t 1)))), (.mk (some 14) none false (.call (.k (.fn 113 [] [])) [(.t 13)])), (.mk (some 15) none false (.callT (.t 12) [(.t 14), (jn (-1))] [4, 5]))] []) A79_6)
def A79_4 : AC := (.seq (.reg [] [((jv 11 (.fn 141 [] [(.t 1), (.t 3), (.t 4), (.t 5)]))), (.mk none none false (.storeK .p (.t 5) (.t 11)))] []) A79_5)
def A79_3 : AC := (.seq (.reg [.clr [5], .frz 1, .frz 3] [(.mk (some 5) none false (.alloc .dead))] []) A79_4)
def A79_2 : AC := (.seq (.reg [.clr [4, 10]] [((jv 8 (.load (.ag [.p]) (.t 1)))), (.mk (some 9) none false (.call (.k (.fn 127 [] [])) [(.t 8)])), (.mk (some 10) none false (.mk (.t 9) (.int .i64 (.ofNat 0)) (.int .i64 (.ofNat 0)))), (.mk (some 4) none false (.alloc (.sl .nl .s 0 []))), (.mk none none false (.store .p (.t 4) (.t 10)))] []) A79_3)
def A79_1 : AC := (.seq (.reg [.clr [3]] [((jv 6 (.load (.ag [.p]) (.t 1)))), (.mk (some 7) none false (.call (.k (.fn 111 [] [])) [(.t 6)])), (.mk (some 3) none false (.alloc (.sl .nl .s 0 []))), (.mk none none false (.store .p (.t 3) (.t 7)))] []) A79_2)
def A79 : AC := (.seq (.reg [.clr [1]] [(.mk (some 1) none false (.box (.t 0))), ((jv 2 (.mov (.k (.sl .nl .s 0 [])))))] []) A79_1)
def an79 : List An := [{ id := 0, pre := [.clr [1]], ep := [], lin := [], sp := [] }, { id := 1, pre := [.clr [3]], ep := [], lin := [], sp := [] }, { id := 2, pre := [.clr [4, 10]], ep := [], lin := [], sp := [] }, { id := 3, pre := [.clr [5], .frz 1, .frz 3], ep := [], lin := [], sp := [] }, { id := 4, pre := [], ep := [], lin := [], sp := [5001] }, { id := 5, pre := [], ep := [], lin := [], sp := [4000004, 4000005] }]
theorem c79 : cC Try.prog Try.f79.ntmps an79 (Try.f79.body.getD .skip) = some A79 := by kernel_rfl
structure H79 (D : Den) (σ : Sig) (F : Nat) : Prop where
  c111 : ∀ (x0 : (S1 (List Int))) r, i_net_treedepths F x0 = some r → D 111 [Enc.enc x0] = some (Enc.enc (r : (List Int)))
  g111 : σ 111 = some (0, false)
  c127 : ∀ (x0 : (S1 (List Int))) r, i_net_size F x0 = some r → D 127 [Enc.enc x0] = some (Enc.enc (r : Int))
  g127 : σ 127 = some (0, false)
  c113 : ∀ (x0 : (S1 (List Int))) r, i_net_all F x0 = some r → D 113 [Enc.enc x0] = some (Enc.enc (r : Int))
  g113 : σ 113 = some (0, false)
  c141 : ∀ (w : S1 (List Int)) (d : List Int) (a b : Int) (ps r : List Int), i_net_grow F w d a b ps = some r → D 141 [ji a, ji b, .ref .sh 0 [] (Enc.enc w), .ref .sh 0 [] (Enc.enc d), grL pinR (pinR + 1) [] ps, grV pinR (pinR + 2) 141 (Enc.enc w) (Enc.enc d)] = some (.tup [.tup [], .tup [grL pinR (pinR + 1) [] r, grV pinR (pinR + 2) 141 (Enc.enc w) (Enc.enc d)]])
  g141 : σ 141 = some (recM, false)
abbrev R79 (r : (List Int)) : (Nat → V) → Prop := RR Try.prog [.tmp 2] 0 false (Enc.enc (r : (List Int)))
section
variable {D : Den} {σ : Sig} {F : Nat} {r : (List Int)}
def i_net_bestForest (F : Nat) (x_1 : (S1 (List Int))) : Option (List Int) :=
  (i_net_treedepths F x_1).bind fun r_1 =>
  (i_net_size F x_1).bind fun r_2 =>
  (mkN r_2 (0 : Int)).bind fun ap_3 =>
  (i_net_all F x_1).bind fun r_4 =>
  (i_net_grow F x_1 r_1 r_4 (-1) ap_3).bind fun r_5 =>
  some r_5
theorem t79 (H : H79 D σ F) (x_1 : (S1 (List Int))) (s : Nat → V) (h0 : s 0 = Enc.enc x_1) (h : i_net_bestForest F x_1 = some r) : Run D σ (R79 r) (.run A79 []) s := by
  unfold i_net_bestForest at h
  refine .seq (run_reg (e_clr ?_))
  refine ez [(0, _), (1, _)] ⟨keep_clear (pk := [1]) h0 rfl me, gone_clear (pk := [1]) (t := 1) rfl⟩ ?_
  rintro s ⟨h0, h1⟩
  refine g_box (Enc.enc x_1) (rd_of h0 rfl) h1 rfl ?_
  refine g0 (.sl .nl .s 0 []) fun h2 => ?_
  refine gz [(1, .ref (.bx 1) 0 [] (Enc.enc x_1))] rfl ?_
  rintro s h1
  refine .nsq (.seq (run_reg (e_clr ?_)))
  refine ez [(1, _), (3, _)] ⟨keep_clear (pk := [3]) h1 rfl (map_bx rfl me), gone_clear (pk := [3]) (t := 3) rfl⟩ ?_
  rintro s ⟨h1, h3⟩
  refine g1 1 (Enc.enc x_1) h1 fun h6 => ?_
  obtain ⟨r_1, E_r_1, h⟩ := bind_some h
  refine g_call (m := 0) (al := false) (r := (Enc.enc (r_1 : List Int))) [Enc.enc (x_1 : S1 (List Int))] (ta_cons (v := Enc.enc x_1) h6 rfl (Enc.erase_enc (x_1 : S1 (List Int))) ta_nil) (H.c111 _ _ E_r_1) H.g111 rfl rfl rfl rfl ?_
  refine g_alloc h3 ?_
  refine g_store (eL r_1) (rd_of (v := .ref (.bx 3) 0 [] (.sl .nl .s 0 [])) rfl rfl) (rd_of (v := eL r_1) rfl rfl) ⟨by decide, by decide, rfl, rfl, rfl, by simp [Enc.toks_enc]⟩ ?_
  refine gz [(1, .ref (.bx 1) 0 [] (Enc.enc x_1)), (3, .ref (.bx 3) 0 [] (eL r_1))] ⟨keep_mut h1 (mut_ref_ne rfl rfl (Enc.mut_enc _ _ _ _ x_1)), keep_mut (v := .ref (.bx 3) 0 [] (.sl .nl .s 0 [])) rfl rfl⟩ ?_
  rintro s ⟨h1, h3⟩
  refine .nsq (.seq (run_reg (e_clr ?_)))
  refine ez [(1, _), (3, _), (4, _), (10, _)] ⟨keep_clear (pk := [4, 10]) h1 rfl (map_bx rfl me), keep_clear (pk := [4, 10]) h3 rfl (map_bx rfl me), gone_clear (pk := [4, 10]) (t := 4) rfl, gone_clear (pk := [4, 10]) (t := 10) rfl⟩ ?_
  rintro s ⟨h1, h3, h4, h10⟩
  refine g1 1 (Enc.enc x_1) h1 fun h8 => ?_
  obtain ⟨r_2, E_r_2, h⟩ := bind_some h
  refine g_call (m := 0) (al := false) (r := (Enc.enc (r_2 : Int))) [Enc.enc (x_1 : S1 (List Int))] (ta_cons (v := Enc.enc x_1) h8 rfl (Enc.erase_enc (x_1 : S1 (List Int))) ta_nil) (H.c127 _ _ E_r_2) H.g127 rfl rfl rfl rfl ?_
  obtain ⟨ap_3, E_ap_3, h⟩ := bind_some h
  refine g_mk (0 : Int) rfl rfl h10 E_ap_3 ?_
  refine g_alloc h4 ?_
  refine g_store (oI 10 [] (.of ap_3)) (rd_of (v := .ref (.bx 4) 0 [] (.sl .nl .s 0 [])) rfl rfl) (rd_of (v := oI 10 [] (.of ap_3)) rfl rfl) ⟨by decide, by decide, rfl, rfl, rfl, by rw [toks_ownL]; rfl⟩ ?_
  refine gz [(1, .ref (.bx 1) 0 [] (Enc.enc x_1)), (3, .ref (.bx 3) 0 [] (eL r_1)), (4, grL 4 10 [] ap_3)] ⟨keep_mut h1 (mut_ref_ne rfl rfl (Enc.mut_enc _ _ _ _ x_1)), keep_mut h3 (mut_ref_ne rfl rfl (Enc.mut_enc _ _ _ _ r_1)), keep_mut (v := .ref (.bx 4) 0 [] (.sl .nl .s 0 [])) rfl rfl⟩ ?_
  rintro s ⟨h1, h3, h4⟩
  refine .nsq (.seq (run_reg (e_clr ?_)))
  refine e_frz (x := 1) [.bx 1] (keep_clear (pk := [5]) h1 rfl (map_bx rfl me)) (toks_bxE (x := x_1)) (fun s_1 g1' => ?_)
  refine e_frz (x := 3) [.bx 3] (g1' 3 _ _ (keep_clear (pk := [5]) h3 rfl (map_bx rfl me)) (frz_ref_ne rfl (Enc.frz_enc _ r_1) rfl)) (toks_bxE (x := r_1)) (fun s_2 g2' => ?_)
  refine ez [(1, .ref .sh 0 [] (Enc.enc x_1)), (3, .ref .sh 0 [] (eL r_1)), (4, grL 4 10 [] ap_3), (5, .gone)] ⟨g2' 1 _ _ (g1' 1 _ _ (keep_clear (pk := [5]) h1 rfl (map_bx rfl me)) frz_bxE) rfl, g2' 3 _ _ (g1' 3 _ _ (keep_clear (pk := [5]) h3 rfl (map_bx rfl me)) (frz_ref_ne rfl (Enc.frz_enc _ r_1) rfl)) frz_bxE, g2' 4 _ _ (g1' 4 _ _ (keep_clear (pk := [5]) h4 rfl (map_bx rfl (map_encO rfl rfl))) (frz_grL rfl rfl rfl)) (frz_grL rfl rfl rfl), g2' 5 _ _ (g1' 5 _ _ (gone_clear (pk := [5]) (t := 5) rfl) rfl) rfl⟩ ?_
  rintro s ⟨h1, h3, h4, h5⟩
  refine g_alloc h5 ?_
  refine gz [(1, .ref .sh 0 [] (Enc.enc x_1)), (3, .ref .sh 0 [] (eL r_1)), (4, grL 4 10 [] ap_3), (5, .ref (.bx 5) 0 [] .dead)] ⟨h1, h3, h4, rfl⟩ ?_
  rintro s ⟨h1, h3, h4, h5⟩
  refine .nsq (.seq (rg ?_))
  refine gv (.fn 141 [] [.ref .sh 0 [] (Enc.enc x_1), .ref .sh 0 [] (eL r_1), grL 4 10 [] ap_3, .ref (.bx 5) 0 [] .dead]) (ev_clo h1 h3 h4 h5 rfl rfl rfl rfl) fun h11 => ?_
  refine g_storeK (cw := Enc.enc x_1) (cd := eL r_1) (p := 4) (q := 5) (c2 := oI 10 [] (.of ap_3)) (rd_of h5 rfl) (rd_of h11 rfl) rfl ?_
  refine gz [(1, .ref .sh 0 [] (Enc.enc x_1)), (4, grL 4 10 [] ap_3), (5, grV 4 5 141 (Enc.enc x_1) (eL r_1))] ⟨keep_mut h1 rfl, keep_mut h4 (mut_ref_ne rfl rfl (mut_own_ne rfl rfl)), keep_mut h5 rfl⟩ ?_
  rintro s ⟨h1, h4, h5⟩
  refine .nsq (.seq (rg (g1 5 (.fn 141 [] (grE 4 5 (Enc.enc x_1) (eL r_1))) h5 fun h12 => g1 1 (Enc.enc x_1) h1 fun h13 => ?_)))
  obtain ⟨r_4, E_r_4, h⟩ := bind_some h
  refine g_call (m := 0) (al := false) (r := (Enc.enc (r_4 : Int))) [Enc.enc (x_1 : S1 (List Int))] (ta_cons (v := Enc.enc x_1) h13 rfl (Enc.erase_enc (x_1 : S1 (List Int))) ta_nil) (H.c113 _ _ E_r_4) H.g113 rfl rfl rfl rfl ?_
  obtain ⟨r_5, E_r_5, h⟩ := bind_some h
  refine g_rec (xs := ap_3) (ys := r_5) (vs := [ji r_4, ji (-1)]) (al := false) h12 h4 h5 (by decide) (by decide) (rdAll_cons rfl rfl (rdAll_cons rfl rfl rdAll_nil)) rfl (fun _ => rfl) (H.c141 _ _ _ _ _ _ E_r_5) H.g141 (fun s1 k4 k5 kk => ?_)
  refine gz [(4, grL 4 10 [] r_5)] k4 ?_
  rintro s h4
  refine .nsq (.seq (rg (g1 4 (oI 10 [] (.of r_5)) h4 fun h16 => gm h16 fun h2 => gq (.nsq (.ret ?_)))))
  have hr := Option.some.inj h
  subst hr
  exact rrA (res_tmp h2) rfl
end
def e79 (F : Nat) : Ent := ent 79 (fun (x : ((S1 (List Int)) × Unit)) => i_net_bestForest F x.1) (fun (r : (List Int)) => (Enc.enc (r : (List Int)))) 0 false []
theorem p79 {F : Nat} {x0 : (S1 (List Int))} {r : (List Int)} (h : i_net_bestForest F x0 = some r) : (e79 F).den [Enc.enc x0] = some (Enc.enc (r : (List Int))) := ent_put (x0, ()) h
theorem o79 {D : Den} {σ : Sig} {F : Nat} (hF : Fits2 Try.prog D σ) (H : H79 D σ F) : (e79 F).Ok Try.prog := by
  refine ok_of (f := 79) (show unk 79 = 79 from rfl) (fun args r h => ?_) ⟨Try.f79, Try.func79, rfl, rfl⟩
  obtain ⟨⟨x0, _⟩, y, rfl, hy, rfl⟩ := da_open h
  exact contract_run hF (by kernel_rfl) Try.func79 rfl c79 (show 1 ≤ Try.f79.ntmps by decide) (t79 H x0 _ rfl hy)
/- math/bits.Mul64 -/
def A177_11 : AC := (.seq (.reg [] [(jm 48 0), (jm 49 1), ((jv 50 (.bin .mul (.t 48) (.t 49)))), (jm 5 50)] []) .ret)
def A177_10 : AC := (.seq (.reg [] [(jm 40 7), (jm 41 9), ((jv 42 (.bin .mul (.t 40) (.t 41)))), (jm 43 13), ((jv 44 (.bin .add (.t 42) (.t 43)))), (jm 45 12), ((jv 46 (.bin .shr (.t 45) (.k (.int .u64 (.ofNat 32)))))), ((jv 47 (.bin .add (.t 44) (.t 46)))), (jm 4 47)] []) A177_11)
def A177_9 : AC := (.seq (.reg [] [(jm 35 12), (jm 36 6), (jm 37 9), ((jv 38 (.bin .mul (.t 36) (.t 37)))), ((jv 39 (.bin .add (.t 35) (.t 38)))), (jm 12 39)] []) A177_10)
def A177_8 : AC := (.seq (.reg [] [(jm 33 11), ((jv 34 (.bin .shr (.t 33) (.k (.int .u64 (.ofNat 32)))))), (jm 13 34)] []) A177_9)
def A177_7 : AC := (.seq (.reg [] [(jm 31 11), ((jv 32 (.bin .and (.t 31) (.k (.int .u64 (.ofNat 4294967295)))))), (jm 12 32)] []) A177_8)
def A177_6 : AC := (.seq (.reg [] [(jm 25 7), (jm 26 8), ((jv 27 (.bin .mul (.t 25) (.t 26)))), (jm 28 10), ((jv 29 (.bin .shr (.t 28) (.k (.int .u64 (.ofNat 32)))))), ((jv 30 (.bin .add (.t 27) (.t 29)))), (jm 11 30)] []) A177_7)
def A177_5 : AC := (.seq (.reg [] [(jm 22 6), (jm 23 8), ((jv 24 (.bin .mul (.t 22) (.t 23)))), (jm 10 24)] []) A177_6)
def A177_4 : AC := (.seq (.reg [] [(jm 20 1), ((jv 21 (.bin .shr (.t 20) (.k (.int .u64 (.ofNat 32)))))), (jm 9 21)] []) A177_5)
def A177_3 : AC := (.seq (.reg [] [(jm 18 1), ((jv 19 (.bin .and (.t 18) (.k (.int .u64 (.ofNat 4294967295)))))), (jm 8 19)] []) A177_4)
def A177_2 : AC := (.seq (.reg [] [(jm 16 0), ((jv 17 (.bin .shr (.t 16) (.k (.int .u64 (.ofNat 32)))))), (jm 7 17)] []) A177_3)
def A177_1 : AC := (.seq (.reg [] [(jm 14 0), ((jv 15 (.bin .and (.t 14) (.k (.int .u64 (.ofNat 4294967295)))))), (jm 6 15)] []) A177_2)
def A177 : AC := (.seq (.reg [] [((jv 4 (.mov (.k (.int .u64 (.ofNat 0)))))), ((jv 5 (.mov (.k (.int .u64 (.ofNat 0))))))] []) A177_1)
def an177 : List An := []
theorem c177 : cC Try.prog Try.f177.ntmps an177 (Try.f177.body.getD .skip) = some A177 := by kernel_rfl
structure H177 (D : Den) (σ : Sig) (F : Nat) : Prop where
  mk ::
abbrev R177 (r : ((Kd .u64) × (Kd .u64))) : (Nat → V) → Prop := RR Try.prog [.tmp 4, .tmp 5] 0 false (.tup [Enc.enc (r.1 : (Kd .u64)), Enc.enc (r.2 : (Kd .u64))])
section
variable {D : Den} {σ : Sig} {F : Nat} {r : ((Kd .u64) × (Kd .u64))}
def bits_Mul64 (F : Nat) (x_1 : (Kd .u64)) (x_2 : (Kd .u64)) : Option ((Kd .u64) × (Kd .u64)) :=
  (shrI .u64 x_1.v 32).bind fun q_3 =>
  (shrI .u64 x_2.v 32).bind fun q_4 =>
  (shrI .u64 (IntKind.u64.wrap ((iand .u64 x_1.v 4294967295) * (iand .u64 x_2.v 4294967295))) 32).bind fun q_5 =>
  (shrI .u64 (IntKind.u64.wrap ((IntKind.u64.wrap (q_3 * (iand .u64 x_2.v 4294967295))) + q_5)) 32).bind fun q_6 =>
  (shrI .u64 (IntKind.u64.wrap ((iand .u64 (IntKind.u64.wrap ((IntKind.u64.wrap (q_3 * (iand .u64 x_2.v 4294967295))) + q_5)) 4294967295) + (IntKind.u64.wrap ((iand .u64 x_1.v 4294967295) * q_4)))) 32).bind fun q_7 =>
  some ((Kd.mk (IntKind.u64.wrap ((IntKind.u64.wrap ((IntKind.u64.wrap (q_3 * q_4)) + q_6)) + q_7)) : Kd .u64), (Kd.mk (IntKind.u64.wrap (x_1.v * x_2.v)) : Kd .u64))
theorem t177 (H : H177 D σ F) (x_1 : (Kd .u64)) (x_2 : (Kd .u64)) (s : Nat → V) (hs : Facts [(0, (.int .u64 x_1.v)), (1, (.int .u64 x_2.v))] s) (h : bits_Mul64 F x_1 x_2 = some r) : Run D σ (R177 r) (.run A177 []) s := by
  unfold bits_Mul64 at h
  obtain ⟨h0, h1⟩ := hs
  refine .seq (rg (g0 (.int .u64 0) fun h4 => ?_))
  refine g0 (.int .u64 0) fun h5 => ?_
  refine gq (.nsq (.seq (rg (gm h0 fun h14 => g1 14 (.int .u64 (iand .u64 x_1.v 4294967295)) h14 fun h15 => ?_))))
  refine gm h15 fun h6 => gq (.nsq (.seq (rg (gm h0 fun h16 => ?_))))
  obtain ⟨q_3, E_q_3, h⟩ := bind_some h
  refine gv (.int .u64 q_3) (ev_shr h16 rfl E_q_3) fun h17 => ?_
  refine gm h17 fun h7 => gq (.nsq (.seq (rg (gm h1 fun h18 => g1 18 (.int .u64 (iand .u64 x_2.v 4294967295)) h18 fun h19 => ?_))))
  refine gm h19 fun h8 => gq (.nsq (.seq (rg (gm h1 fun h20 => ?_))))
  obtain ⟨q_4, E_q_4, h⟩ := bind_some h
  refine gv (.int .u64 q_4) (ev_shr h20 rfl E_q_4) fun h21 => ?_
  refine gm h21 fun h9 => gq (.nsq (.seq (rg (gm h6 fun h22 => gm h8 fun h23 => g2 22 23 (.int .u64 (IntKind.u64.wrap ((iand .u64 x_1.v 4294967295) * (iand .u64 x_2.v 4294967295)))) h22 h23 fun h24 => ?_))))
  refine gm h24 fun h10 => gq (.nsq (.seq (rg (gm h7 fun h25 => gm h8 fun h26 => g2 25 26 (.int .u64 (IntKind.u64.wrap (q_3 * (iand .u64 x_2.v 4294967295)))) h25 h26 fun h27 => ?_))))
  refine gm h10 fun h28 => ?_
  obtain ⟨q_5, E_q_5, h⟩ := bind_some h
  refine gv (.int .u64 q_5) (ev_shr h28 rfl E_q_5) fun h29 => ?_
  refine g2 27 29 (.int .u64 (IntKind.u64.wrap ((IntKind.u64.wrap (q_3 * (iand .u64 x_2.v 4294967295))) + q_5))) h27 h29 fun h30 => ?_
  refine gm h30 fun h11 => gq (.nsq (.seq (rg (gm h11 fun h31 => g1 31 (.int .u64 (iand .u64 (IntKind.u64.wrap ((IntKind.u64.wrap (q_3 * (iand .u64 x_2.v 4294967295))) + q_5)) 4294967295)) h31 fun h32 => ?_))))
  refine gm h32 fun h12 => gq (.nsq (.seq (rg (gm h11 fun h33 => ?_))))
  obtain ⟨q_6, E_q_6, h⟩ := bind_some h
  refine gv (.int .u64 q_6) (ev_shr h33 rfl E_q_6) fun h34 => ?_
  refine gm h34 fun h13 => gz [(0, _), (1, _), (4, _), (5, _), (6, _), (7, _), (9, _), (12, _), (13, _)] ⟨h0, h1, h4, h5, h6, h7, h9, h12, h13⟩ ?_
  rintro s ⟨h0, h1, h4, h5, h6, h7, h9, h12, h13⟩
  refine .nsq (.seq (rg (gm h12 fun h35 => gm h6 fun h36 => gm h9 fun h37 => g2 36 37 (.int .u64 (IntKind.u64.wrap ((iand .u64 x_1.v 4294967295) * q_4))) h36 h37 fun h38 => ?_)))
  refine g2 35 38 (.int .u64 (IntKind.u64.wrap ((iand .u64 (IntKind.u64.wrap ((IntKind.u64.wrap (q_3 * (iand .u64 x_2.v 4294967295))) + q_5)) 4294967295) + (IntKind.u64.wrap ((iand .u64 x_1.v 4294967295) * q_4))))) h35 h38 fun h39 => ?_
  refine gm h39 fun h12 => gq (.nsq (.seq (rg (gm h7 fun h40 => gm h9 fun h41 => g2 40 41 (.int .u64 (IntKind.u64.wrap (q_3 * q_4))) h40 h41 fun h42 => ?_))))
  refine gm h13 fun h43 => g2 42 43 (.int .u64 (IntKind.u64.wrap ((IntKind.u64.wrap (q_3 * q_4)) + q_6))) h42 h43 fun h44 => ?_
  refine gm h12 fun h45 => ?_
  obtain ⟨q_7, E_q_7, h⟩ := bind_some h
  refine gv (.int .u64 q_7) (ev_shr h45 rfl E_q_7) fun h46 => ?_
  refine g2 44 46 (.int .u64 (IntKind.u64.wrap ((IntKind.u64.wrap ((IntKind.u64.wrap (q_3 * q_4)) + q_6)) + q_7))) h44 h46 fun h47 => ?_
  refine gm h47 fun h4 => gq (.nsq (.seq (rg (gm h0 fun h48 => gm h1 fun h49 => g2 48 49 (.int .u64 (IntKind.u64.wrap (x_1.v * x_2.v))) h48 h49 fun h50 => ?_))))
  refine gm h50 fun h5 => gq (.nsq (.ret ?_))
  have hr := Option.some.inj h
  subst hr
  exact rrB (res_tmp h4) (res_tmp h5) rfl
end
def e177 (F : Nat) : Ent := ent 177 (fun (x : ((Kd .u64) × (Kd .u64) × Unit)) => bits_Mul64 F x.1 x.2.1) (fun (r : ((Kd .u64) × (Kd .u64))) => (.tup [Enc.enc (r.1 : (Kd .u64)), Enc.enc (r.2 : (Kd .u64))])) 0 false []
theorem p177 {F : Nat} {x0 : (Kd .u64)} {x1 : (Kd .u64)} {r : ((Kd .u64) × (Kd .u64))} (h : bits_Mul64 F x0 x1 = some r) : (e177 F).den [Enc.enc x0, Enc.enc x1] = some (.tup [Enc.enc (r.1 : (Kd .u64)), Enc.enc (r.2 : (Kd .u64))]) := ent_put (x0, x1, ()) h
theorem o177 {D : Den} {σ : Sig} {F : Nat} (hF : Fits2 Try.prog D σ) (H : H177 D σ F) : (e177 F).Ok Try.prog := by
  refine ok_of (f := 177) (show unk 177 = 177 from rfl) (fun args r h => ?_) ⟨Try.f177, Try.func177, rfl, rfl⟩
  obtain ⟨⟨x0, x1, _⟩, y, rfl, hy, rfl⟩ := da_open h
  exact contract_run hF (by kernel_rfl) Try.func177 rfl c177 (show 2 ≤ Try.f177.ntmps by decide) (t177 H x0 x1 _ ⟨rfl, rfl⟩ hy)
/- math/bits.Mul -/
def A144_2 : AC := (.seq (.reg [] [(jm 18 6), ((jv 19 (.conv .u64 (.t 18)))), (jm 20 7), ((jv 21 (.conv .u64 (.t 20)))), (jm 4 19), (jm 5 21)] []) .ret)
def A144_4 : AC := (.seq (.reg [] [(jm 28 8), (jm 29 9), (jm 4 28), (jm 5 29)] []) .ret)
def A144_3 : AC := (.seq (.reg [] [(jm 23 0), (jm 24 1), (.mk (some 25) none false (.call (.k (.fn 177 [] [])) [(.t 23), (.t 24)])), (jm 22 25), ((jv 26 (.extS (.t 22) 0))), ((jv 27 (.extS (.t 22) 1))), (jm 8 26), (jm 9 27)] []) A144_4)
def A144_1 : AC := (.seq (.cond (.k (.bool false)) (.seq (.reg [] [(jm 11 0), ((jv 12 (.conv .u32 (.t 11)))), (jm 13 1), ((jv 14 (.conv .u32 (.t 13)))), (.mk (some 15) none false (.call (.k (.fn 176 [] [])) [(.t 12), (.t 14)])), (jm 10 15), ((jv 16 (.extS (.t 10) 0))), ((jv 17 (.extS (.t 10) 1))), (jm 6 16), (jm 7 17)] []) A144_2) .skip) A144_3)
def A144 : AC := (.seq (.reg [] [((jv 4 (.mov (.k (.int .u64 (.ofNat 0)))))), ((jv 5 (.mov (.k (.int .u64 (.ofNat 0))))))] []) A144_1)
def an144 : List An := []
theorem c144 : cC Try.prog Try.f144.ntmps an144 (Try.f144.body.getD .skip) = some A144 := by kernel_rfl
structure H144 (D : Den) (σ : Sig) (F : Nat) : Prop where
  c177 : ∀ (x0 : (Kd .u64)) (x1 : (Kd .u64)) r, bits_Mul64 F x0 x1 = some r → D 177 [Enc.enc x0, Enc.enc x1] = some (.tup [Enc.enc (r.1 : (Kd .u64)), Enc.enc (r.2 : (Kd .u64))])
  g177 : σ 177 = some (0, false)
abbrev R144 (r : ((Kd .u64) × (Kd .u64))) : (Nat → V) → Prop := RR Try.prog [.tmp 4, .tmp 5] 0 false (.tup [Enc.enc (r.1 : (Kd .u64)), Enc.enc (r.2 : (Kd .u64))])
section
variable {D : Den} {σ : Sig} {F : Nat} {r : ((Kd .u64) × (Kd .u64))}
def bits_Mul (F : Nat) (x_1 : (Kd .u64)) (x_2 : (Kd .u64)) : Option ((Kd .u64) × (Kd .u64)) :=
  (bits_Mul64 F (Kd.mk x_1.v : Kd .u64) (Kd.mk x_2.v : Kd .u64)).bind fun r_3 =>
  some ((Kd.mk r_3.1.v : Kd .u64), (Kd.mk r_3.2.v : Kd .u64))
theorem t144 (H : H144 D σ F) (x_1 : (Kd .u64)) (x_2 : (Kd .u64)) (s : Nat → V) (hs : Facts [(0, (.int .u64 x_1.v)), (1, (.int .u64 x_2.v))] s) (h : bits_Mul F x_1 x_2 = some r) : Run D σ (R144 r) (.run A144 []) s := by
  unfold bits_Mul at h
  obtain ⟨h0, h1⟩ := hs
  refine .seq (rg (g0 (.int .u64 0) fun h4 => ?_))
  refine g0 (.int .u64 0) fun h5 => ?_
  refine gq (.nsq (.seq (run_condF rfl ?_)))
  refine .skip (.nsq (.seq (rg (gm h0 fun h23 => gm h1 fun h24 => ?_))))
  obtain ⟨r_3, E_r_3, h⟩ := bind_some h
  refine g_call (m := 0) (al := false) (r := (.tup [Enc.enc (r_3.1 : (Kd .u64)), Enc.enc (r_3.2 : (Kd .u64))])) [Enc.enc ((Kd.mk x_1.v : Kd .u64) : (Kd .u64)), Enc.enc ((Kd.mk x_2.v : Kd .u64) : (Kd .u64))] (ta_cons (v := (.int .u64 x_1.v)) h23 rfl rfl (ta_cons (v := (.int .u64 x_2.v)) h24 rfl rfl ta_nil)) (H.c177 _ _ _ E_r_3) H.g177 rfl rfl rfl rfl ?_
  refine gm (rfl : (_ : V) = (.tup [(.int .u64 r_3.1.v), (.int .u64 r_3.2.v)])) fun h22 => ?_
  refine g1 22 (.int .u64 r_3.1.v) h22 fun h26 => ?_
  refine g1 22 (.int .u64 r_3.2.v) h22 fun h27 => ?_
  refine gm h26 fun h8 => gm h27 fun h9 => gq (.nsq (.seq (rg (gm h8 fun h28 => gm h9 fun h29 => gm h28 fun h4 => gm h29 fun h5 => gq (.nsq (.ret ?_))))))
  have hr := Option.some.inj h
  subst hr
  exact rrB (res_tmp h4) (res_tmp h5) rfl
end
def e144 (F : Nat) : Ent := ent 144 (fun (x : ((Kd .u64) × (Kd .u64) × Unit)) => bits_Mul F x.1 x.2.1) (fun (r : ((Kd .u64) × (Kd .u64))) => (.tup [Enc.enc (r.1 : (Kd .u64)), Enc.enc (r.2 : (Kd .u64))])) 0 false []
theorem p144 {F : Nat} {x0 : (Kd .u64)} {x1 : (Kd .u64)} {r : ((Kd .u64) × (Kd .u64))} (h : bits_Mul F x0 x1 = some r) : (e144 F).den [Enc.enc x0, Enc.enc x1] = some (.tup [Enc.enc (r.1 : (Kd .u64)), Enc.enc (r.2 : (Kd .u64))]) := ent_put (x0, x1, ()) h
theorem o144 {D : Den} {σ : Sig} {F : Nat} (hF : Fits2 Try.prog D σ) (H : H144 D σ F) : (e144 F).Ok Try.prog := by
  refine ok_of (f := 144) (show unk 144 = 144 from rfl) (fun args r h => ?_) ⟨Try.f144, Try.func144, rfl, rfl⟩
  obtain ⟨⟨x0, x1, _⟩, y, rfl, hy, rfl⟩ := da_open h
  exact contract_run hF (by kernel_rfl) Try.func144 rfl c144 (show 2 ≤ Try.f144.ntmps by decide) (t144 H x0 x1 _ ⟨rfl, rfl⟩ hy)
/- slices.Repeat[[]int,int] -/
def A80o_2 : AC := (.cond (.t 37) .skip (.exit 0))
def A80o_3 : AC := (.block 1 (.reg [] [(jm 38 8), (jm 39 7), (jm 40 8), ((jv 41 (.slice (.t 39) (some (.t 40)) none 1))), (jm 42 7), (jm 43 8), ((jv 44 (.slice (.t 42) none (some (.t 43)) 1))), (.mk (some 45) none false (.copy (.t 41) (.t 44))), ((jv 46 (.bin .add (.t 38) (.t 45)))), (jm 8 46)] []))
def A80o_1 : AC := (.seq (.seq (.reg [] [(jm 34 8), (jm 35 7), ((jv 36 (.len (.t 35)))), ((jv 37 (.bin .lss (.t 34) (.t 36))))] []) A80o_2) A80o_3)
def A80o_4 : AC := (.seq (.reg [] [(jm 47 7), (jm 4 47)] [.home 7 4]) .ret)
def A80o_5 : AC := (.cond (.t 26) (.reg [] [(.mk none none false (.v (.un .not (.k .dead))))] []) .skip)
def A80o_8 : AC := (.seq (.block 0 (.loop A80o_1)) A80o_4)
def A80o_7 : AC := (.seq (.reg [] [(jm 31 7), (jm 32 0), (.mk (some 33) none false (.copy (.t 31) (.t 32))), (jm 8 33)] []) A80o_8)
def A80o_6 : AC := (.seq (.reg [.clr [30]] [(jm 28 6), ((jv 29 (.conv .i64 (.t 28)))), (.mk (some 30) none false (.mk (.t 29) (.int .i64 (.ofNat 0)) (.int .i64 (.ofNat 0)))), (jm 7 30)] [.home 30 7]) A80o_7)
def A80o_10 : AC := (.cond (.t 10) (.reg [] [(.mk none none false (.v (.un .not (.k .dead))))] []) .skip)
def A80o_12 : AC := (.seq (.seq (.reg [] [(jm 21 5), ((jv 22 (.bin .gtr (.t 21) (.k (.int .u64 (.ofNat 0)))))), (jm 23 22), ((jg 24 23 false (.mov (.t 6)))), ((jg 25 23 false (.bin .gtr (.t 24) (.k (.int .u64 (.ofNat 9223372036854775807)))))), ((jv 26 (.pick (.t 23) (.k (.bool true)) (.t 25))))] []) A80o_5) A80o_6)
def A80o_11 : AC := (.seq (.reg [] [(jm 13 0), ((jv 14 (.len (.t 13)))), ((jv 15 (.conv .u64 (.t 14)))), (jm 16 1), ((jv 17 (.conv .u64 (.t 16)))), (.mk (some 18) none false (.call (.k (.fn 144 [] [])) [(.t 15), (.t 17)])), (jm 12 18), ((jv 19 (.extS (.t 12) 0))), ((jv 20 (.extS (.t 12) 1))), (jm 5 19), (jm 6 20)] []) A80o_12)
def A80o_9 : AC := (.seq (.seq (.reg [] [(jm 9 1), ((jv 10 (.bin .lss (.t 9) (jn 0))))] []) A80o_10) A80o_11)
def A80o : AC := (.seq (.reg [] [((jv 4 (.mov (.k (.sl .nl .s 0 [])))))] []) A80o_9)
def an80o : List An := [{ id := 6, pre := [.clr [30]], ep := [.home 30 7], lin := [], sp := [] }, { id := 10, pre := [], ep := [.home 7 4], lin := [], sp := [] }]
theorem c80o : cC Try.prog Try.f80.ntmps an80o (Try.f80.body.getD .skip) = some A80o := by kernel_rfl
structure H80o (D : Den) (σ : Sig) (F : Nat) : Prop where
  c144 : ∀ (x0 : (Kd .u64)) (x1 : (Kd .u64)) r, bits_Mul F x0 x1 = some r → D 144 [Enc.enc x0, Enc.enc x1] = some (.tup [Enc.enc (r.1 : (Kd .u64)), Enc.enc (r.2 : (Kd .u64))])
  g144 : σ 144 = some (0, false)
abbrev R80o (r : (NL Int)) : (Nat → V) → Prop := RR Try.prog [.tmp 4] 1 false (encO .sh (r : NL Int))
section
variable {D : Den} {σ : Sig} {F : Nat} {r : (NL Int)}
def slices_Repeat_o_l1 (F : Nat)   : Nat → (List Int) → Int → Option (NL Int)
  | 0, _, _ => none
  | k + 1, x_8, x_9 =>
    bif decide (x_9 < (x_8.length : Int)) then
      (sub x_8 x_9 (x_8.length : Int)).bind fun sub_12 =>
      (sub x_8 0 x_9).bind fun sub_13 =>
      (slices_Repeat_o_l1 F k) (cpyL x_8 (Int.toNat x_9) (sub_13.take sub_12.length)) (w64 (x_9 + ((min sub_13.length sub_12.length : Nat) : Int)))
    else
      some (.of x_8)
theorem t_f80o_l1 (H : H80o D σ F)   : ∀ (k : Nat) (x_8 : (List Int)) (x_9 : Int) (s : Nat → V), Facts [(4, (.sl .nl (Enc.shp Int) 0 [])), (7, (oI 7 [] (.of x_8))), (8, (ji x_9))] s → slices_Repeat_o_l1 F k x_8 x_9 = some r → Run D σ (R80o r) (.run A80o_1 [.lp A80o_1, .bk 0, .sq A80o_4]) s := by
  intro k
  induction k with
  | zero => intro x_8 x_9 s _ h; exact nomatch (h : (none : Option _) = some r)
  | succ k ih =>
    intro x_8 x_9 s hs h
    rw [slices_Repeat_o_l1] at h
    obtain ⟨h4, h7, h8⟩ := hs
    refine .seq (.seq (rg (gm h8 fun h34 => gm h7 fun h35 => gv (ji (x_8.length : Int)) (ev_lenO (o := .of x_8) h35) fun h36 => ?_)))
    refine g2 34 36 (jb (decide (x_9 < (x_8.length : Int)))) h34 h36 fun h37 => ?_
    refine gq (.nsq (run_cond (t := decide (x_9 < (x_8.length : Int))) h37 h (fun h => ?_) (fun h => ?_)))
    · refine .skip (.nsq (.block (rg (gm h8 fun h38 => gm h7 fun h39 => gm h8 fun h40 => ?_))))
      obtain ⟨sub_12, E_sub_12, h⟩ := bind_some h
      refine gv (.sl (.at 7 []) (Enc.shp Int) (Int.toNat x_9) ((sub_12 : List Int).map Enc.enc)) (ev_sliceO (xs := x_8) h39 (optI_some h40) (optI_none) E_sub_12 rfl) fun h41 => ?_
      refine gm h7 fun h42 => gm h8 fun h43 => ?_
      obtain ⟨sub_13, E_sub_13, h⟩ := bind_some h
      refine gv (.sl (.at 7 []) (Enc.shp Int) (Int.toNat 0) ((sub_13 : List Int).map Enc.enc)) (ev_sliceO (xs := x_8) h42 (optI_none) (optI_some h43) E_sub_13 rfl) fun h44 => ?_
      refine g_copy (r := 7) (p := []) (lo := (Int.toNat x_9)) (t2 := (.at 7 [])) (lo2 := (Int.toNat 0)) sub_12 sub_13 h41 h44 ?_
      refine g2 38 45 (ji (w64 (x_9 + ((min sub_13.length sub_12.length : Nat) : Int)))) (keep_copy _ _ _ h38 (fun _ _ => rfl)) (rfl : (_ : V) = (ji ((min sub_13.length sub_12.length : Nat) : Int))) fun h46 => ?_
      refine gm h46 fun h8 => gz [(4, (.sl .nl (Enc.shp Int) 0 [])), (7, (oI 7 [] (.of (cpyL x_8 (Int.toNat x_9) (sub_13.take sub_12.length))))), (8, _)] ⟨(keep_copy _ _ _ h4 (fun _ _ => rfl)), (keep_copyO (sub_13.take sub_12.length) (Int.toNat x_9) _ ((.of x_8) : NL Int) h7), h8⟩ ?_
      rintro s ⟨h4, h7, h8⟩
      refine .nbk (.nlp ?_)
      exact ih (cpyL x_8 (Int.toNat x_9) (sub_13.take sub_12.length)) (w64 (x_9 + ((min sub_13.length sub_12.length : Nat) : Int))) _ ⟨h4, h7, h8⟩ h
    refine .exit (.esq (.elp (.ebk (.nsq (.seq (rg (gm h7 fun h47 => gm h47 fun h4 => g_end ?_)))))))
    refine e_home (r := 7) (x := 4) (v := _) h4 rfl (fun s_3 hg_3 => ?_)
    refine ez [(4, (oI 4 [] (.of x_8)))] (hg_3 4 _ _ h4 (map_encO (r := 7) (p := []) rfl rfl)) ?_
    rintro s h4
    refine .nsq (.ret ?_)
    have hr := Option.some.inj h
    subst hr
    exact rrA (res_tmp h4) (fin_retO (finO_own (o := ((.of x_8) : NL Int))) rfl (mine_own rfl))
def slices_Repeat_o_j1 (F : Nat) (x_1 : (List Int)) (r_3 : ((Kd .u64) × (Kd .u64)))  (x_4 : Bool) : Option (NL Int) :=
  bif x_4 then
    none
  else
    (mkN (w64 r_3.2.v) (0 : Int)).bind fun mk_5 =>
    slices_Repeat_o_l1 F F (cpyL mk_5 0 (x_1.take mk_5.length)) ((min x_1.length mk_5.length : Nat) : Int)
theorem t_f80o_j1 (H : H80o D σ F) (x_1 : (List Int)) (r_3 : ((Kd .u64) × (Kd .u64)))  (x_4 : Bool) (s : Nat → V) (hs : Facts [(0, (eL x_1)), (4, (.sl .nl (Enc.shp Int) 0 [])), (6, (.int .u64 r_3.2.v)), (26, (jb x_4))] s) (h : slices_Repeat_o_j1 F x_1 r_3  x_4 = some r) : Run D σ (R80o r) (.nrm [.sq A80o_5, .sq A80o_6]) s := by
  unfold slices_Repeat_o_j1 at h
  obtain ⟨h0, h4, h6, h26⟩ := hs
  refine .nsq (run_cond (t := x_4) h26 h (fun h => ?_) (fun h => ?_))
  · cases h
  refine .skip (.nsq (.seq (run_reg ?_)))
  refine e_clr ?_
  refine ez [(0, _), (4, _), (6, _), (30, _)] ⟨(keep_clear (pk := [30]) h0 rfl me), (keep_clear (pk := [30]) h4 rfl rfl), (keep_clear (pk := [30]) h6 rfl mi), (gone_clear (pk := [30]) (t := 30) rfl)⟩ ?_
  rintro s ⟨h0, h4, h6, h30⟩
  refine gm h6 fun h28 => g1 28 (ji (w64 r_3.2.v)) h28 fun h29 => ?_
  obtain ⟨mk_5, E_mk_5, h⟩ := bind_some h
  refine g_mk (0 : Int) h29 rfl h30 E_mk_5 ?_
  refine gm (rfl : (_ : V) = (oI 30 [] (.of mk_5))) fun h7 => ?_
  refine g_end ?_
  refine e_home (r := 30) (x := 7) (v := _) h7 rfl (fun s_2 hg_2 => ?_)
  refine ez [(0, (eL x_1)), (4, (.sl .nl (Enc.shp Int) 0 [])), (7, (oI 7 [] (.of mk_5)))] ⟨(hg_2 0 _ _ h0 me), (hg_2 4 _ (.sl .nl (Enc.shp Int) 0 []) h4 rfl), (hg_2 7 _ _ h7 (map_encO (r := 30) (p := []) rfl rfl))⟩ ?_
  rintro s ⟨h0, h4, h7⟩
  refine .nsq (.seq (rg (gm h7 fun h31 => gm h0 fun h32 => g_copy (r := 7) (p := []) (lo := 0) (t2 := .sh) (lo2 := 0) mk_5 x_1 h31 h32 ?_)))
  refine gm (rfl : (_ : V) = (ji ((min x_1.length mk_5.length : Nat) : Int))) fun h8 => ?_
  refine gz [(4, (.sl .nl (Enc.shp Int) 0 [])), (7, (oI 7 [] (.of (cpyL mk_5 0 (x_1.take mk_5.length))))), (8, _)] ⟨(keep_copy _ _ _ h4 (fun _ _ => rfl)), (keep_copyO (x_1.take mk_5.length) 0 _ ((.of mk_5) : NL Int) h7), h8⟩ ?_
  rintro s ⟨h4, h7, h8⟩
  refine .nsq (.seq (.block (.loop ?_)))
  exact t_f80o_l1 H F (cpyL mk_5 0 (x_1.take mk_5.length)) ((min x_1.length mk_5.length : Nat) : Int) _ ⟨h4, h7, h8⟩ h
def slices_Repeat_o (F : Nat) (x_1 : (List Int)) (x_2 : Int) : Option (NL Int) :=
  bif decide (x_2 < 0) then
    none
  else
    (bits_Mul F (Kd.mk (IntKind.u64.wrap (x_1.length : Int)) : Kd .u64) (Kd.mk (IntKind.u64.wrap x_2) : Kd .u64)).bind fun r_3 =>
    bif decide (r_3.1.v > 0) then
      slices_Repeat_o_j1 F x_1 r_3 true
    else
      slices_Repeat_o_j1 F x_1 r_3 (decide (r_3.2.v > 9223372036854775807))
theorem t80o (H : H80o D σ F) (x_1 : (List Int)) (x_2 : Int) (s : Nat → V) (hs : Facts [(0, (eL x_1)), (1, (ji x_2))] s) (h : slices_Repeat_o F x_1 x_2 = some r) : Run D σ (R80o r) (.run A80o []) s := by
  unfold slices_Repeat_o at h
  obtain ⟨h0, h1⟩ := hs
  refine .seq (rg (g0 (.sl .nl (Enc.shp Int) 0 []) fun h4 => ?_))
  refine gq (.nsq (.seq (.seq (rg (gm h1 fun h9 => g1 9 (jb (decide (x_2 < 0))) h9 fun h10 => ?_)))))
  refine gq (.nsq (run_cond (t := decide (x_2 < 0)) h10 h (fun h => ?_) (fun h => ?_)))
  · cases h
  refine .skip (.nsq (.seq (rg (gm h0 fun h13 => gv (ji (x_1.length : Int)) (ev_len (xs := x_1) h13) fun h14 => ?_))))
  refine g1 14 (.int .u64 (IntKind.u64.wrap (x_1.length : Int))) h14 fun h15 => ?_
  refine gm h1 fun h16 => g1 16 (.int .u64 (IntKind.u64.wrap x_2)) h16 fun h17 => ?_
  obtain ⟨r_3, E_r_3, h⟩ := bind_some h
  refine g_call (m := 0) (al := false) (r := (.tup [Enc.enc (r_3.1 : (Kd .u64)), Enc.enc (r_3.2 : (Kd .u64))])) [Enc.enc ((Kd.mk (IntKind.u64.wrap (x_1.length : Int)) : Kd .u64) : (Kd .u64)), Enc.enc ((Kd.mk (IntKind.u64.wrap x_2) : Kd .u64) : (Kd .u64))] (ta_cons (v := (.int .u64 (IntKind.u64.wrap (x_1.length : Int)))) h15 rfl rfl (ta_cons (v := (.int .u64 (IntKind.u64.wrap x_2))) h17 rfl rfl ta_nil)) (H.c144 _ _ _ E_r_3) H.g144 rfl rfl rfl rfl ?_
  refine gm (rfl : (_ : V) = (.tup [(.int .u64 r_3.1.v), (.int .u64 r_3.2.v)])) fun h12 => ?_
  refine g1 12 (.int .u64 r_3.1.v) h12 fun h19 => ?_
  refine g1 12 (.int .u64 r_3.2.v) h12 fun h20 => ?_
  refine gm h19 fun h5 => gm h20 fun h6 => gq (.nsq (.seq (.seq (rg (gm h5 fun h21 => g1 21 (jb (decide (r_3.1.v > 0))) h21 fun h22 => ?_)))))
  refine gm h22 fun h23 => split_on (c := decide (r_3.1.v > 0)) h (fun hg3 h => ?_) (fun hg3 h => ?_)
  · refine g_no (h23.trans (congrArg V.bool hg3)) ?_
    refine g_no (h23.trans (congrArg V.bool hg3)) ?_
    refine g2 23 25 (jb true) (h23.trans (congrArg V.bool hg3)) (rfl : (_ : V) = (.tup [])) fun h26 => ?_
    refine gq ?_
    exact t_f80o_j1 H x_1 r_3 true _ ⟨h0, h4, h6, h26⟩ h
  refine g_yes (h23.trans (congrArg V.bool hg3)) (gm h6 fun h24 => ?_)
  refine g_yes (h23.trans (congrArg V.bool hg3)) (g1 24 (jb (decide (r_3.2.v > 9223372036854775807))) h24 fun h25 => ?_)
  refine g2 23 25 (jb (decide (r_3.2.v > 9223372036854775807))) (h23.trans (congrArg V.bool hg3)) h25 fun h26 => ?_
  refine gq ?_
  exact t_f80o_j1 H x_1 r_3 (decide (r_3.2.v > 9223372036854775807)) _ ⟨h0, h4, h6, h26⟩ h
end
def e80o (F : Nat) : Ent := ent 1000000080 (fun (x : ((List Int) × Int × Unit)) => slices_Repeat_o F x.1 x.2.1) (fun (r : (NL Int)) => (encO .sh (r : NL Int))) 1 false []
theorem p80o {F : Nat} {x0 : (List Int)} {x1 : Int} {r : (NL Int)} (h : slices_Repeat_o F x0 x1 = some r) : (e80o F).den [Enc.enc x0, Enc.enc x1] = some (encO .sh (r : NL Int)) := ent_put (x0, x1, ()) h
theorem o80o {D : Den} {σ : Sig} {F : Nat} (hF : Fits2 Try.prog D σ) (H : H80o D σ F) : (e80o F).Ok Try.prog := by
  refine ok_of (f := 80) (show unk 1000000080 = 80 from rfl) (fun args r h => ?_) ⟨Try.f80, Try.func80, rfl, rfl⟩
  obtain ⟨⟨x0, x1, _⟩, y, rfl, hy, rfl⟩ := da_open h
  exact contract_run hF (by kernel_rfl) Try.func80 rfl c80o (show 2 ≤ Try.f80.ntmps by decide) (t80o H x0 x1 _ ⟨rfl, rfl⟩ hy)
/- loop.example/g01109/impl.RankingOf -/
def A33o_9 : AC := (.cond (.t 30) (.reg [] [(jm 31 5), (jm 32 7), (jm 33 5), (jm 34 7), ((jv 35 (.idx (.t 33) (.t 34) 1))), ((jv 36 (.load .s (.t 35)))), (jm 37 5), (jm 38 6), ((jv 39 (.idx (.t 37) (.t 38) 1))), ((jv 40 (.load .s (.t 39)))), ((jv 41 (.bin .add (.t 40) (jn 1)))), ((jv 42 (.mx [(.t 36), (.t 41)]))), ((jv 43 (.idx (.t 31) (.t 32) 1))), (.mk none none false (.store .s (.t 43) (.t 42)))] []) .skip)
def A33o_8 : AC := (.seq (.reg [] [(jm 29 7), ((jv 30 (.bin .geq (.t 29) (jn 0))))] []) A33o_9)
def A33o_10 : AC := (.reg [] [((jv 44 (.bin .add (.t 24) (jn 1)))), (jm 24 44)] [])
def A33o_7 : AC := (.seq (.block 3 (.seq (.reg [] [(jm 26 24), ((jv 27 (.idx (.t 22) (.t 24) 1))), ((jv 28 (.load .s (.t 27)))), (jm 6 26), (jm 7 28)] []) A33o_8)) A33o_10)
def A33o_6 : AC := (.seq (.cond (.t 25) .skip (.exit 2)) A33o_7)
def A33o_5 : AC := (.seq (.reg [] [((jv 25 (.bin .lss (.t 24) (.t 23))))] []) A33o_6)
def A33o_4 : AC := (.block 2 (.loop A33o_5))
def A33o_11 : AC := (.reg [] [((jv 45 (.bin .add (.t 20) (jn 1)))), (jm 20 45)] [])
def A33o_3 : AC := (.seq (.block 1 (.seq (.reg [] [(jm 22 4), ((jv 23 (.len (.t 22)))), ((jv 24 (.mov (jn 0))))] []) A33o_4)) A33o_11)
def A33o_2 : AC := (.seq (.cond (.t 21) .skip (.exit 0)) A33o_3)
def A33o_1 : AC := (.seq (.reg [] [((jv 21 (.bin .lss (.t 20) (.t 19))))] []) A33o_2)
def A33o_12 : AC := (.seq (.reg [] [(jm 46 5), (jm 2 46), ((jv 3 (.mov (.k (.bool true)))))] [.home 5 2]) .ret)
def A33o_14 : AC := (.cond (.t 10) (.seq (.reg [] [((jv 2 (.mov (.k (.sl .nl .s 0 []))))), ((jv 3 (.mov (.k (.bool false)))))] []) .ret) .skip)
def A33o_18 : AC := (.block 0 (.loop A33o_1))
def A33o_17 : AC := (.seq (.seq (.reg [] [((jv 18 (.fld (.t 1) 0 0))), ((jv 19 (.load .s (.t 18)))), ((jv 20 (.mov (jn 0))))] []) A33o_18) A33o_12)
def A33o_16 : AC := (.seq (.reg [.clr [14, 17]] [(.mk (some 14) none false (.lit (.int .i64 (.ofNat 0)) 1 [(0, 0, (jn 1))])), ((jv 15 (.fld (.t 1) 0 0))), ((jv 16 (.load .s (.t 15)))), (.mk (some 17) none false (.callO (.k (.fn 80 [] [])) [(.t 14), (.t 16)])), (jm 5 17)] [.home 17 5]) A33o_17)
def A33o_15 : AC := (.seq (.reg [] [((jv 11 (.load (.ag [.s, .p]) (.t 1)))), (.mk (some 12) none false (.call (.k (.fn 65 [] [])) [(.t 11)])), (.mk (some 13) none false (.call (.k (.fn 79 [] [])) [(.t 12)])), (jm 4 13)] []) A33o_16)
def A33o_13 : AC := (.seq (.seq (.reg [] [((jv 8 (.load (.ag [.s, .p]) (.t 1)))), (.mk (some 9) none false (.call (.k (.fn 63 [] [])) [(.t 8)])), ((jv 10 (.un .not (.t 9))))] []) A33o_14) A33o_15)
def A33o : AC := (.seq (.reg [.clr [1]] [(.mk (some 1) none false (.box (.t 0))), ((jv 2 (.mov (.k (.sl .nl .s 0 []))))), ((jv 3 (.mov (.k (.bool false)))))] []) A33o_13)
def an33o : List An := [{ id := 0, pre := [.clr [1]], ep := [], lin := [], sp := [] }, { id := 4, pre := [.clr [14, 17]], ep := [.home 17 5], lin := [], sp := [1003] }, { id := 14, pre := [], ep := [.home 5 2], lin := [], sp := [] }]
theorem c33o : cC Try.prog Try.f33.ntmps an33o (Try.f33.body.getD .skip) = some A33o := by kernel_rfl
structure H33o (D : Den) (σ : Sig) (F : Nat) : Prop where
  c63 : ∀ (x0 : (Int × (List (Int × Int)))) r, i_IsGraph F x0 = some r → D 63 [Enc.enc x0] = some (Enc.enc (r : Bool))
  g63 : σ 63 = some (0, false)
  c65 : ∀ (x0 : (Int × (List (Int × Int)))) r, i_netOf F x0 = some r → D 65 [Enc.enc x0] = some (Enc.enc (r : (S1 (List Int))))
  g65 : σ 65 = some (0, false)
  c79 : ∀ (x0 : (S1 (List Int))) r, i_net_bestForest F x0 = some r → D 79 [Enc.enc x0] = some (Enc.enc (r : (List Int)))
  g79 : σ 79 = some (0, false)
  c80o : ∀ (x0 : (List Int)) (x1 : Int) r, slices_Repeat_o F x0 x1 = some r → D 1000000080 [Enc.enc x0, Enc.enc x1] = some (encO .sh (r : NL Int))
  g80o : σ 1000000080 = some (1, false)
abbrev R33o (r : ((NL Int) × Bool)) : (Nat → V) → Prop := RR Try.prog [.tmp 2, .tmp 3] 1 false (.tup [(encO .sh (r.1 : NL Int)), (Enc.enc (r.2 : Bool))])
section
variable {D : Den} {σ : Sig} {F : Nat} {r : ((NL Int) × Bool)}
def i_RankingOf_o_j1 (F : Nat) (r_4 : (List Int)) (x_1 : (Int × (List (Int × Int)))) (x_33 : Int) (x_69 : Int) (c1 : (NL Int) → Int → Option ((NL Int) × Bool)) (c4 : (NL Int) → Int → Option ((NL Int) × Bool)) (x_82 : (NL Int)) : Option ((NL Int) × Bool) :=
  c4 x_82 (w64 (x_69 + 1))
theorem t_f33o_j1 (H : H33o D σ F) (r_4 : (List Int)) (x_1 : (Int × (List (Int × Int)))) (x_33 : Int) (x_69 : Int) (c1 : (NL Int) → Int → Option ((NL Int) × Bool)) (Hc1 : ∀ (x_32 : (NL Int)) (x_33 : Int) (s : Nat → V), Facts [(2, (.sl .nl (Enc.shp Int) 0 [])), (3, (jb false)), (4, (eL r_4)), (5, (oI 5 [] x_32)), (19, (ji x_1.1)), (20, (ji x_33))] s → c1 x_32 x_33 = some r → Run D σ (R33o r) (.run A33o_1 [.lp A33o_1, .bk 0, .sq A33o_12]) s) (c4 : (NL Int) → Int → Option ((NL Int) × Bool)) (Hc4 : ∀ (x_68 : (NL Int)) (x_69 : Int) (s : Nat → V), Facts [(2, (.sl .nl (Enc.shp Int) 0 [])), (3, (jb false)), (4, (eL r_4)), (5, (oI 5 [] x_68)), (19, (ji x_1.1)), (20, (ji x_33)), (22, (eL r_4)), (23, (ji (r_4.length : Int))), (24, (ji x_69))] s → c4 x_68 x_69 = some r → Run D σ (R33o r) (.run A33o_5 [.lp A33o_5, .bk 2, .bk 1, .sq A33o_11, .lp A33o_1, .bk 0, .sq A33o_12]) s) (x_82 : (NL Int)) (s : Nat → V) (hs : Facts [(2, (.sl .nl (Enc.shp Int) 0 [])), (3, (jb false)), (4, (eL r_4)), (5, (oI 5 [] x_82)), (19, (ji x_1.1)), (20, (ji x_33)), (22, (eL r_4)), (23, (ji (r_4.length : Int))), (24, (ji x_69))] s) (h : i_RankingOf_o_j1 F r_4 x_1 x_33 x_69 c1 c4 x_82 = some r) : Run D σ (R33o r) (.nrm [.bk 3, .sq A33o_10, .lp A33o_5, .bk 2, .bk 1, .sq A33o_11, .lp A33o_1, .bk 0, .sq A33o_12]) s := by
  unfold i_RankingOf_o_j1 at h
  obtain ⟨h2, h3, h4, h5, h19, h20, h22, h23, h24⟩ := hs
  refine .nbk (.nsq (rg (g1 24 (ji (w64 (x_69 + 1))) h24 fun h44 => ?_)))
  refine gm h44 fun h24 => gq (.nlp ?_)
  exact Hc4 x_82 (w64 (x_69 + 1)) _ ⟨h2, h3, h4, h5, h19, h20, h22, h23, h24⟩ h
def i_RankingOf_o_l1 (F : Nat) (r_4 : (List Int)) (x_1 : (Int × (List (Int × Int)))) (x_33 : Int) (c1 : (NL Int) → Int → Option ((NL Int) × Bool)) : Nat → (NL Int) → Int → Option ((NL Int) × Bool)
  | 0, _, _ => none
  | k + 1, x_68, x_69 =>
    bif decide (x_69 < (r_4.length : Int)) then
      (idx r_4 x_69).bind fun e_78 =>
      bif decide (e_78 ≥ 0) then
        (idx x_68.list e_78).bind fun e_83 =>
        (idx x_68.list x_69).bind fun e_84 =>
        (idx x_68.list e_78).bind fun e_85 =>
        i_RankingOf_o_j1 F r_4 x_1 x_33 x_69 c1 (i_RankingOf_o_l1 F r_4 x_1 x_33 c1 k) (NL.set x_68 e_78.toNat (if (w64 (e_84 + 1)) > e_83 then (w64 (e_84 + 1)) else e_83))
      else
        i_RankingOf_o_j1 F r_4 x_1 x_33 x_69 c1 (i_RankingOf_o_l1 F r_4 x_1 x_33 c1 k) x_68
    else
      c1 x_68 (w64 (x_33 + 1))
theorem t_f33o_l1 (H : H33o D σ F) (r_4 : (List Int)) (x_1 : (Int × (List (Int × Int)))) (x_33 : Int) (c1 : (NL Int) → Int → Option ((NL Int) × Bool)) (Hc1 : ∀ (x_32 : (NL Int)) (x_33 : Int) (s : Nat → V), Facts [(2, (.sl .nl (Enc.shp Int) 0 [])), (3, (jb false)), (4, (eL r_4)), (5, (oI 5 [] x_32)), (19, (ji x_1.1)), (20, (ji x_33))] s → c1 x_32 x_33 = some r → Run D σ (R33o r) (.run A33o_1 [.lp A33o_1, .bk 0, .sq A33o_12]) s) : ∀ (k : Nat) (x_68 : (NL Int)) (x_69 : Int) (s : Nat → V), Facts [(2, (.sl .nl (Enc.shp Int) 0 [])), (3, (jb false)), (4, (eL r_4)), (5, (oI 5 [] x_68)), (19, (ji x_1.1)), (20, (ji x_33)), (22, (eL r_4)), (23, (ji (r_4.length : Int))), (24, (ji x_69))] s → i_RankingOf_o_l1 F r_4 x_1 x_33 c1 k x_68 x_69 = some r → Run D σ (R33o r) (.run A33o_5 [.lp A33o_5, .bk 2, .bk 1, .sq A33o_11, .lp A33o_1, .bk 0, .sq A33o_12]) s := by
  intro k
  induction k with
  | zero => intro x_68 x_69 s _ h; exact nomatch (h : (none : Option _) = some r)
  | succ k ih =>
    intro x_68 x_69 s hs h
    rw [i_RankingOf_o_l1] at h
    obtain ⟨h2, h3, h4, h5, h19, h20, h22, h23, h24⟩ := hs
    refine .seq (rg (g2 24 23 (jb (decide (x_69 < (r_4.length : Int)))) h24 h23 fun h25 => ?_))
    refine gq (.nsq (.seq (run_cond (t := decide (x_69 < (r_4.length : Int))) h25 h (fun h => ?_) (fun h => ?_))))
    · refine .skip (.nsq (.seq (.block (.seq (rg (gm h24 fun h26 => ?_))))))
      obtain ⟨e_78, E_e_78, h⟩ := bind_some h
      refine gv (.ref .sh 0 [] (ji e_78)) (ev_idx (t := .sh) (lo := 0) (xs := r_4) h22 h24 E_e_78 rfl rfl) fun h27 => ?_
      refine g1 27 (ji e_78) h27 fun h28 => ?_
      refine gm h26 fun h6 => gm h28 fun h7 => gq (.nsq (.seq (rg (gm h7 fun h29 => g1 29 (jb (decide (e_78 ≥ 0))) h29 fun h30 => ?_))))
      refine gq (.nsq (run_cond (t := decide (e_78 ≥ 0)) h30 h (fun h => ?_) (fun h => ?_)))
      · refine rg (gv (oI 5 [] x_68) (ev_mov h5 ok_encO) fun h31 => ?_)
        refine gm h7 fun h32 => gv (oI 5 [] x_68) (ev_mov h5 ok_encO) fun h33 => ?_
        refine gm h7 fun h34 => ?_
        obtain ⟨e_83, E_e_83, h⟩ := bind_some h
        refine gv (.ref (.at 5 []) e_78.toNat [] (ji e_83)) (ev_idxO (o := x_68) h33 h34 E_e_83 rfl) fun h35 => ?_
        refine g1 35 (ji e_83) h35 fun h36 => ?_
        refine gv (oI 5 [] x_68) (ev_mov h5 ok_encO) fun h37 => ?_
        refine gm h6 fun h38 => ?_
        obtain ⟨e_84, E_e_84, h⟩ := bind_some h
        refine gv (.ref (.at 5 []) x_69.toNat [] (ji e_84)) (ev_idxO (o := x_68) h37 h38 E_e_84 rfl) fun h39 => ?_
        refine g1 39 (ji e_84) h39 fun h40 => ?_
        refine g1 40 (ji (w64 (e_84 + 1))) h40 fun h41 => ?_
        refine g2 36 41 (ji (if (w64 (e_84 + 1)) > e_83 then (w64 (e_84 + 1)) else e_83)) h36 h41 fun h42 => ?_
        obtain ⟨e_85, E_e_85, h⟩ := bind_some h
        refine gv (.ref (.at 5 []) e_78.toNat [] (ji e_85)) (ev_idxO (o := x_68) h31 h32 E_e_85 rfl) fun h43 => ?_
        refine g_store (ji (if (w64 (e_84 + 1)) > e_83 then (w64 (e_84 + 1)) else e_83)) (rd_of h43 rfl) (rd_of h42 rfl) (by refine ⟨by decide, by decide, rfl, rfl, rfl, ?_⟩; first | rfl | (simp [V.toks, V.tokss, Enc.toks_enc]; done) | simp [V.toks, V.tokss, Enc.toks_enc, tok_memP]) ?_
        refine gz [(2, (.sl .nl (Enc.shp Int) 0 [])), (3, (jb false)), (4, (eL r_4)), (5, _), (19, (ji x_1.1)), (20, (ji x_33)), (22, (eL r_4)), (23, (ji (r_4.length : Int))), (24, (ji x_69))] ⟨(keep_mut h2 rfl), (keep_mut h3 rfl), (keep_mut h4 (Enc.mut_enc _ _ _ _ (r_4 : List Int))), (keep_mut h5 (mut_ownN (α := Int) (u := (if (w64 (e_84 + 1)) > e_83 then (w64 (e_84 + 1)) else e_83)) (i := e_78.toNat) (o := x_68))), (keep_mut h19 rfl), (keep_mut h20 rfl), (keep_mut h22 (Enc.mut_enc _ _ _ _ (r_4 : List Int))), (keep_mut h23 rfl), (keep_mut h24 rfl)⟩ ?_
        rintro s ⟨h2, h3, h4, h5, h19, h20, h22, h23, h24⟩
        exact t_f33o_j1 H r_4 x_1 x_33 x_69 c1 Hc1 (i_RankingOf_o_l1 F r_4 x_1 x_33 c1 k) ih (NL.set x_68 e_78.toNat (if (w64 (e_84 + 1)) > e_83 then (w64 (e_84 + 1)) else e_83)) _ ⟨h2, h3, h4, h5, h19, h20, h22, h23, h24⟩ h
      refine .skip ?_
      exact t_f33o_j1 H r_4 x_1 x_33 x_69 c1 Hc1 (i_RankingOf_o_l1 F r_4 x_1 x_33 c1 k) ih x_68 _ ⟨h2, h3, h4, h5, h19, h20, h22, h23, h24⟩ h
    refine .exit (.esq (.elp (.ebk (.nbk (.nsq (rg (g1 20 (ji (w64 (x_33 + 1))) h20 fun h45 => ?_)))))))
    refine gm h45 fun h20 => gq (.nlp ?_)
    exact Hc1 x_68 (w64 (x_33 + 1)) _ ⟨h2, h3, h4, h5, h19, h20⟩ h
def i_RankingOf_o_l2 (F : Nat) (r_4 : (List Int)) (x_1 : (Int × (List (Int × Int))))  : Nat → (NL Int) → Int → Option ((NL Int) × Bool)
  | 0, _, _ => none
  | k + 1, x_32, x_33 =>
    bif decide (x_33 < x_1.1) then
      i_RankingOf_o_l1 F r_4 x_1 x_33 (i_RankingOf_o_l2 F r_4 x_1 k) F x_32 0
    else
      some (x_32, true)
theorem t_f33o_l2 (H : H33o D σ F) (r_4 : (List Int)) (x_1 : (Int × (List (Int × Int))))  : ∀ (k : Nat) (x_32 : (NL Int)) (x_33 : Int) (s : Nat → V), Facts [(2, (.sl .nl (Enc.shp Int) 0 [])), (3, (jb false)), (4, (eL r_4)), (5, (oI 5 [] x_32)), (19, (ji x_1.1)), (20, (ji x_33))] s → i_RankingOf_o_l2 F r_4 x_1 k x_32 x_33 = some r → Run D σ (R33o r) (.run A33o_1 [.lp A33o_1, .bk 0, .sq A33o_12]) s := by
  intro k
  induction k with
  | zero => intro x_32 x_33 s _ h; exact nomatch (h : (none : Option _) = some r)
  | succ k ih =>
    intro x_32 x_33 s hs h
    rw [i_RankingOf_o_l2] at h
    obtain ⟨h2, h3, h4, h5, h19, h20⟩ := hs
    refine .seq (rg (g2 20 19 (jb (decide (x_33 < x_1.1))) h20 h19 fun h21 => ?_))
    refine gq (.nsq (.seq (run_cond (t := decide (x_33 < x_1.1)) h21 h (fun h => ?_) (fun h => ?_))))
    · refine .skip (.nsq (.seq (.block (.seq (rg (gm h4 fun h22 => gv (ji (r_4.length : Int)) (ev_len (xs := r_4) h22) fun h23 => ?_))))))
      refine g0 (ji 0) fun h24 => gq (.nsq (.block (.loop ?_)))
      exact t_f33o_l1 H r_4 x_1 x_33 (i_RankingOf_o_l2 F r_4 x_1 k) ih F x_32 0 _ ⟨h2, h3, h4, h5, h19, h20, h22, h23, h24⟩ h
    refine .exit (.esq (.elp (.ebk (.nsq (.seq (rg (gv (oI 5 [] x_32) (ev_mov h5 ok_encO) fun h46 => ?_)))))))
    refine gv (oI 5 [] x_32) (ev_mov h46 ok_encO) fun h2 => ?_
    refine g0 (jb true) fun h3 => ?_
    refine g_end ?_
    refine e_home (r := 5) (x := 2) (v := _) h2 ok_encO (fun s_4 hg_4 => ?_)
    refine ez [(2, (oI 2 [] x_32)), (3, (jb true))] ⟨(hg_4 2 _ _ h2 (map_encO (r := 5) (p := []) rfl rfl)), (hg_4 3 _ _ h3 mb)⟩ ?_
    rintro s ⟨h2, h3⟩
    refine .nsq (.ret ?_)
    have hr := Option.some.inj h
    subst hr
    exact rrB (res_tmp h2) (res_tmp h3) (fin_retO (finO_tup (finOs_cons (finO_own (o := (x_32 : NL Int))) (finOs_cons finO_bool finOs_nil))) rfl (mine_tup (mines_cons (mine_own rfl) (mines_cons rfl mines_nil))))
def i_RankingOf_o (F : Nat) (x_1 : (Int × (List (Int × Int)))) : Option ((NL Int) × Bool) :=
  (i_IsGraph F x_1).bind fun r_2 =>
  bif (!r_2) then
    some (.nil, false)
  else
    (i_netOf F x_1).bind fun r_3 =>
    (i_net_bestForest F r_3).bind fun r_4 =>
    (slices_Repeat_o F [1] x_1.1).bind fun r_5 =>
    i_RankingOf_o_l2 F r_4 x_1 F r_5 0
theorem t33o (H : H33o D σ F) (x_1 : (Int × (List (Int × Int)))) (s : Nat → V) (hs : Facts [(0, (.agg [(ji x_1.1), (Enc.enc (x_1.2 : List (Int × Int)))]))] s) (h : i_RankingOf_o F x_1 = some r) : Run D σ (R33o r) (.run A33o []) s := by
  unfold i_RankingOf_o at h
  have h0 := hs
  refine .seq (run_reg ?_)
  refine e_clr ?_
  refine ez [(0, _), (1, _)] ⟨(keep_clear (pk := [1]) h0 rfl (map_agg (maps_cons mi (maps_cons me maps_nil)))), (gone_clear (pk := [1]) (t := 1) rfl)⟩ ?_
  rintro s ⟨h0, h1⟩
  refine g_box (.agg [(ji x_1.1), (Enc.enc (x_1.2 : List (Int × Int)))]) (rd_of h0 rfl) h1 rfl ?_
  refine g0 (.sl .nl (Enc.shp Int) 0 []) fun h2 => ?_
  refine g0 (jb false) fun h3 => ?_
  refine gq (.nsq (.seq (.seq (rg (g1 1 (.agg [(ji x_1.1), (Enc.enc (x_1.2 : List (Int × Int)))]) (rfl : (_ : V) = (.ref (.bx 1) 0 [] (.agg [(ji x_1.1), (Enc.enc (x_1.2 : List (Int × Int)))]))) fun h8 => ?_)))))
  obtain ⟨r_2, E_r_2, h⟩ := bind_some h
  refine g_call (m := 0) (al := false) (r := (Enc.enc (r_2 : Bool))) [Enc.enc (x_1 : (Int × (List (Int × Int))))] (ta_cons (v := (.agg [(ji x_1.1), (Enc.enc (x_1.2 : List (Int × Int)))])) h8 rfl (Enc.erase_enc (x_1 : (Int × (List (Int × Int))))) ta_nil) (H.c63 _ _ E_r_2) H.g63 rfl rfl rfl rfl ?_
  refine g1 9 (jb (!r_2)) (rfl : (_ : V) = (jb r_2)) fun h10 => ?_
  refine gq (.nsq (run_cond (t := (!r_2)) h10 h (fun h => ?_) (fun h => ?_)))
  · refine .seq (rg (g0 (.sl .nl (Enc.shp Int) 0 []) fun h2 => ?_))
    refine g0 (jb false) fun h3 => ?_
    refine gq (.nsq (.ret ?_))
    have hr := Option.some.inj h
    subst hr
    exact rrB (res_tmp h2) (res_tmp h3) (fin_retO (finO_tup (finOs_cons (finO_nil (α := Int)) (finOs_cons finO_bool finOs_nil))) rfl (mine_tup (mines_cons mine_nil (mines_cons rfl mines_nil))))
  refine .skip (.nsq (.seq (rg (g1 1 (.agg [(ji x_1.1), (Enc.enc (x_1.2 : List (Int × Int)))]) (rfl : (_ : V) = (.ref (.bx 1) 0 [] (.agg [(ji x_1.1), (Enc.enc (x_1.2 : List (Int × Int)))]))) fun h11 => ?_))))
  obtain ⟨r_3, E_r_3, h⟩ := bind_some h
  refine g_call (m := 0) (al := false) (r := (Enc.enc (r_3 : (S1 (List Int))))) [Enc.enc (x_1 : (Int × (List (Int × Int))))] (ta_cons (v := (.agg [(ji x_1.1), (Enc.enc (x_1.2 : List (Int × Int)))])) h11 rfl (Enc.erase_enc (x_1 : (Int × (List (Int × Int))))) ta_nil) (H.c65 _ _ E_r_3) H.g65 rfl rfl rfl rfl ?_
  obtain ⟨r_4, E_r_4, h⟩ := bind_some h
  refine g_call (m := 0) (al := false) (r := (Enc.enc (r_4 : (List Int)))) [Enc.enc (r_3 : (S1 (List Int)))] (ta_cons (v := (.agg [(eL r_3.a)])) rfl rfl (Enc.erase_enc (r_3 : (S1 (List Int)))) ta_nil) (H.c79 _ _ E_r_4) H.g79 rfl rfl rfl rfl ?_
  refine gm (rfl : (_ : V) = (eL r_4)) fun h4 => ?_
  refine gq (.nsq (.seq (run_reg ?_)))
  refine e_clr ?_
  refine ez [(1, _), (2, _), (3, _), (4, _), (14, _), (17, _)] ⟨(keep_clear (pk := [14, 17]) rfl rfl (map_bx rfl (map_agg (maps_cons mi (maps_cons me maps_nil))))), (keep_clear (pk := [14, 17]) h2 rfl rfl), (keep_clear (pk := [14, 17]) h3 rfl mb), (keep_clear (pk := [14, 17]) h4 rfl me), (gone_clear (pk := [14, 17]) (t := 14) rfl), (gone_clear (pk := [14, 17]) (t := 17) rfl)⟩ ?_
  rintro s ⟨h1, h2, h3, h4, h14, h17⟩
  refine g_litL [] [Enc.enc (1 : Int)] trivial rfl rfl h14 ?_
  refine g1 1 (.ref (.bx 1) 0 [0] (ji x_1.1)) h1 fun h15 => ?_
  refine g1 15 (ji x_1.1) h15 fun h16 => ?_
  obtain ⟨r_5, E_r_5, h⟩ := bind_some h
  refine g_callO (m := 1) (al := false) (r := (encO .sh (r_5 : NL Int))) (v := (oI 17 [] r_5)) (kk := 1000000080) [Enc.enc ([1] : (List Int)), Enc.enc (x_1.1 : Int)] (ta_cons (v := (oI 14 [] (.of [1]))) rfl rfl (erase_encO (o := .of [1])) (ta_cons (v := (ji x_1.1)) h16 rfl rfl ta_nil)) (H.c80o _ _ _ E_r_5) H.g80o rfl toks_encS tag_encO ok_encP h17 ?_
  refine gv (oI 17 [] r_5) (ev_mov rfl ok_encO) fun h5 => ?_
  refine g_end ?_
  refine e_home (r := 17) (x := 5) (v := _) h5 ok_encO (fun s_3 hg_3 => ?_)
  refine ez [(1, (.ref (.bx 1) 0 [] (.agg [(ji x_1.1), (Enc.enc (x_1.2 : List (Int × Int)))]))), (2, (.sl .nl (Enc.shp Int) 0 [])), (3, (jb false)), (4, (eL r_4)), (5, (oI 5 [] r_5))] ⟨(hg_3 1 _ _ h1 (map_bx rfl (map_agg (maps_cons mi (maps_cons me maps_nil))))), (hg_3 2 _ (.sl .nl (Enc.shp Int) 0 []) h2 rfl), (hg_3 3 _ _ h3 mb), (hg_3 4 _ _ h4 me), (hg_3 5 _ _ h5 (map_encO (r := 17) (p := []) rfl rfl))⟩ ?_
  rintro s ⟨h1, h2, h3, h4, h5⟩
  refine .nsq (.seq (.seq (rg (g1 1 (.ref (.bx 1) 0 [0] (ji x_1.1)) h1 fun h18 => ?_))))
  refine g1 18 (ji x_1.1) h18 fun h19 => ?_
  refine g0 (ji 0) fun h20 => gq (.nsq (.block (.loop ?_)))
  exact t_f33o_l2 H r_4 x_1 F r_5 0 _ ⟨h2, h3, h4, h5, h19, h20⟩ h
end
def e33o (F : Nat) : Ent := ent 1000000033 (fun (x : ((Int × (List (Int × Int))) × Unit)) => i_RankingOf_o F x.1) (fun (r : ((NL Int) × Bool)) => (.tup [(encO .sh (r.1 : NL Int)), (Enc.enc (r.2 : Bool))])) 1 false []
theorem p33o {F : Nat} {x0 : (Int × (List (Int × Int)))} {r : ((NL Int) × Bool)} (h : i_RankingOf_o F x0 = some r) : (e33o F).den [Enc.enc x0] = some (.tup [(encO .sh (r.1 : NL Int)), (Enc.enc (r.2 : Bool))]) := ent_put (x0, ()) h
theorem o33o {D : Den} {σ : Sig} {F : Nat} (hF : Fits2 Try.prog D σ) (H : H33o D σ F) : (e33o F).Ok Try.prog := by
  refine ok_of (f := 33) (show unk 1000000033 = 33 from rfl) (fun args r h => ?_) ⟨Try.f33, Try.func33, rfl, rfl⟩
  obtain ⟨⟨x0, _⟩, y, rfl, hy, rfl⟩ := da_open h
  exact contract_run hF (by kernel_rfl) Try.func33 rfl c33o (show 1 ≤ Try.f33.ntmps by decide) (t33o H x0 _ rfl hy)
end Go.Zq
