/- Functions of the program as typed functions, and that the machine runs as they say (part 3). No further condition. -/
import Derived.Test.YtdhbhaaiohkpdaaK3
import Derived.Test.YtdhbhaaiohkpdaaKC
import Derived.Test.YtdhbhaaiohkpdaaProg
import Derived.Test.YtdhbhaaiohkpdaaChecked
import Derived.KernelRfl
import Derived.Test.YtdhbhaaiohkpdaaG2
set_option linter.unusedVariables false
set_option linter.unusedSimpArgs false
/- Functions of the program, as typed functions, and that the machine runs as they say. -/
namespace Go.Zq
open Go.Proofs Go.Shelf
/- loop.example/g01109/laws.markDecomposition -/
def A46_3 : AC := (.seq (.reg [] [(jm 13 1), (jm 4 13)] []) .ret)
def A46_2 : AC := (.seq (.reg [] [((jv 9 (.fld (.t 2) 1 1))), ((jv 10 (.load .p (.t 9)))), (jm 11 1), (.mk (some 12) none false (.mark (.k (.fn 69 [] [])) [(.t 10), (.t 11)])), (jm 1 12)] []) A46_3)
def A46_1 : AC := (.seq (.reg [] [((jv 5 (.fld (.t 2) 0 0))), ((jv 6 (.load .p (.t 5)))), (jm 7 1), (.mk (some 8) none false (.mark (.k (.fn 30 [] [])) [(.t 6), (.t 7)])), (jm 1 8)] []) A46_2)
def A46 : AC := (.seq (.reg [.clr [2]] [(.mk (some 2) none false (.box (.t 0))), ((jv 4 (.mov (jn 0))))] []) A46_1)
def an46 : List An := [{ id := 0, pre := [.clr [2]], ep := [], lin := [], sp := [] }, { id := 1, pre := [], ep := [], lin := [], sp := [3] }, { id := 2, pre := [], ep := [], lin := [], sp := [3] }]
theorem c46 : cC Try.prog Try.f46.ntmps an46 (Try.f46.body.getD .skip) = some A46 := by kernel_rfl
structure H46 (D : Den) (σ : Sig) (F : Nat) : Prop where
  c30 : ∀ (x0 : (On2 Int)) (x1 : Int) r, w_markIntSS F x0 x1 = some r → D 30 [Arg.arg x0, Enc.enc x1] = some (.tup [Enc.enc (r.1 : Int), encN pinR [] (r.2 : NL (NL Int))])
  g30 : σ 30 = some (pinR, false)
  c69 : ∀ (x0 : (On (Int × Int))) (x1 : Int) r, w_markIntA2S F x0 x1 = some r → D 69 [Arg.arg x0, Enc.enc x1] = some (.tup [Enc.enc (r.1 : Int), encO (.at pinR []) (r.2 : NL (Int × Int))])
  g69 : σ 69 = some (pinR, false)
abbrev R46 (r : (Int × (Od Int (Int × Int)))) : (Nat → V) → Prop := RM Try.prog [.tmp 4] (Enc.enc (r.1 : Int)) (.agg [encN pinR [0] (r.2.a : NL (NL Int)), encO (.at pinR [1]) (r.2.v : NL (Int × Int))])
section
variable {D : Den} {σ : Sig} {F : Nat} {r : (Int × (Od Int (Int × Int)))}
def w_markDecomposition (F : Nat) (x_1 : (Od Int (Int × Int))) (x_2 : Int) : Option (Int × (Od Int (Int × Int))) :=
  (w_markIntSS F (On2.mk x_1.a : (On2 Int)) x_2).bind fun r_3 =>
  (remark2 x_1.a r_3.2).bind fun m_4 =>
  (w_markIntA2S F (On.mk x_1.v : (On (Int × Int))) r_3.1).bind fun r_5 =>
  (remark x_1.v r_5.2).bind fun m_6 =>
  some (r_5.1, Od.mk m_4 m_6)
theorem t46 (H : H46 D σ F) (x_1 : (Od Int (Int × Int))) (x_2 : Int) (s : Nat → V) (hs : Facts [(0, (.agg [(encN pinR [0] (x_1.a : NL (NL Int))), (encO (.at pinR [1]) (x_1.v : NL (Int × Int)))])), (1, (ji x_2))] s) (h : w_markDecomposition F x_1 x_2 = some r) : Run D σ (R46 r) (.run A46 []) s := by
  unfold w_markDecomposition at h
  obtain ⟨h0, h1⟩ := hs
  refine .seq (run_reg ?_)
  refine e_clr ?_
  refine ez [(0, _), (1, _), (2, _)] ⟨(keep_clear (pk := [2]) h0 rfl (map_agg (maps_cons (map_encN (r := pinR) (p := [0]) rfl (fun _ => rfl) rfl) (maps_cons (map_encO (r := pinR) (p := [1]) rfl rfl) maps_nil)))), (keep_clear (pk := [2]) h1 rfl mi), (gone_clear (pk := [2]) (t := 2) rfl)⟩ ?_
  rintro s ⟨h0, h1, h2⟩
  refine g_box (.agg [(encN pinR [0] (x_1.a : NL (NL Int))), (encO (.at pinR [1]) (x_1.v : NL (Int × Int)))]) (rd_of h0 rfl) h2 rfl ?_
  refine g0 (ji 0) fun h4 => gq (.nsq (.seq (rg (g1 2 (.ref (.bx 2) 0 [0] (encN pinR [0] (x_1.a : NL (NL Int)))) (rfl : (_ : V) = (.ref (.bx 2) 0 [] (.agg [(encN pinR [0] (x_1.a : NL (NL Int))), (encO (.at pinR [1]) (x_1.v : NL (Int × Int)))]))) fun h5 => ?_))))
  refine gv (encN pinR [0] (x_1.a : NL (NL Int))) (ev_loadN (c := (encN pinR [0] (x_1.a : NL (NL Int)))) h5 (by rw [shape_encN]; rfl)) fun h6 => ?_
  refine gm h1 fun h7 => ?_
  obtain ⟨r_3, E_r_3, h⟩ := bind_some h
  obtain ⟨m_4, E_m_4, h⟩ := bind_some h
  refine g_mark (v := (encN pinR [0] (x_1.a : NL (NL Int)))) h6 (canon_N (o := (x_1.a : (NL (NL Int)))) rfl) (rdAll_cons (v := (ji x_2)) h7 rfl rdAll_nil) (H.c30 _ _ _ E_r_3) H.g30 rfl rfl (fun s_2 hm_2 => ?_)
  refine gm (rfl : (_ : V) = (ji r_3.1)) fun h1 => ?_
  refine gz [(0, (.agg [(encN pinR [0] (m_4 : NL (NL Int))), (encO (.at pinR [1]) (x_1.v : NL (Int × Int)))])), (1, _), (2, (.ref (.bx 2) 0 [] (.agg [(encN pinR [0] (m_4 : NL (NL Int))), (encO (.at pinR [1]) (x_1.v : NL (Int × Int)))]))), (4, (ji 0))] ⟨(show s_2 0 = (.agg [(encN pinR [0] (m_4 : NL (NL Int))), (encO (.at pinR [1]) (x_1.v : NL (Int × Int)))]) from hm_2 0 (.agg [(encN pinR [0] (x_1.a : NL (NL Int))), (encO (.at pinR [1]) (x_1.v : NL (Int × Int)))]) (.agg [(encN pinR [0] (m_4 : NL (NL Int))), (encO (.at pinR [1]) (x_1.v : NL (Int × Int)))]) h0 (rem_agg (rems_cons (marked_N (o := (x_1.a : NL (NL Int))) rfl E_m_4) (rems_cons (rem_self _ (map_encO (r := pinR) (p := [1]) (killN_path rfl (fun _ => rfl)) killN_nl)) rems_nil)))), h1, (show s_2 2 = (.ref (.bx 2) 0 [] (.agg [(encN pinR [0] (m_4 : NL (NL Int))), (encO (.at pinR [1]) (x_1.v : NL (Int × Int)))])) from hm_2 2 (.ref (.bx 2) 0 [] (.agg [(encN pinR [0] (x_1.a : NL (NL Int))), (encO (.at pinR [1]) (x_1.v : NL (Int × Int)))])) (.ref (.bx 2) 0 [] (.agg [(encN pinR [0] (m_4 : NL (NL Int))), (encO (.at pinR [1]) (x_1.v : NL (Int × Int)))])) rfl (rem_bxK killN_bx (rem_agg (rems_cons (marked_N (o := (x_1.a : NL (NL Int))) rfl E_m_4) (rems_cons (rem_self _ (map_encO (r := pinR) (p := [1]) (killN_path rfl (fun _ => rfl)) killN_nl)) rems_nil))))), (show s_2 4 = (ji 0) from hm_2 4 (ji 0) (ji 0) h4 (rem_self _ rfl))⟩ ?_
  rintro s ⟨h0, h1, h2, h4⟩
  refine .nsq (.seq (rg (gv (.ref (.bx 2) 0 [1] (encO (.at pinR [1]) (x_1.v : NL (Int × Int)))) (ev_fldN (v := (encO (.at pinR [1]) (x_1.v : NL (Int × Int)))) h2 rfl (by simp [V.shape, V.shapes, shape_encP, shape_encN, Sh.size, Sh.sizes])) fun h9 => ?_)))
  refine gv (encO (.at pinR [1]) (x_1.v : NL (Int × Int))) (ev_loadN h9 beq_encO) fun h10 => ?_
  refine gm h1 fun h11 => ?_
  obtain ⟨r_5, E_r_5, h⟩ := bind_some h
  obtain ⟨m_6, E_m_6, h⟩ := bind_some h
  refine g_mark (v := (encO (.at pinR [1]) (x_1.v : NL (Int × Int)))) h10 (canon_own (o := (x_1.v : (NL (Int × Int)))) rfl) (rdAll_cons (v := (ji r_3.1)) h11 rfl rdAll_nil) (H.c69 _ _ _ E_r_5) H.g69 rfl rfl (fun s_3 hm_3 => ?_)
  refine gm (rfl : (_ : V) = (ji r_5.1)) fun h1 => ?_
  refine gz [(0, (.agg [(encN pinR [0] (m_4 : NL (NL Int))), (encO (.at pinR [1]) (m_6 : NL (Int × Int)))])), (1, _), (4, (ji 0))] ⟨(show s_3 0 = (.agg [(encN pinR [0] (m_4 : NL (NL Int))), (encO (.at pinR [1]) (m_6 : NL (Int × Int)))]) from hm_3 0 (.agg [(encN pinR [0] (m_4 : NL (NL Int))), (encO (.at pinR [1]) (x_1.v : NL (Int × Int)))]) (.agg [(encN pinR [0] (m_4 : NL (NL Int))), (encO (.at pinR [1]) (m_6 : NL (Int × Int)))]) h0 (rem_agg (rems_cons (rem_self _ (map_encN (r := pinR) (p := [0]) (killO_ne rfl) (fun _ => killO_ne rfl) (killO_ne rfl))) (rems_cons (marked_own (o := (x_1.v : NL (Int × Int))) rfl E_m_6) rems_nil)))), h1, (show s_3 4 = (ji 0) from hm_3 4 (ji 0) (ji 0) h4 (rem_self _ rfl))⟩ ?_
  rintro s ⟨h0, h1, h4⟩
  refine .nsq (.seq (rg (gm h1 fun h13 => gm h13 fun h4 => gq (.nsq (.ret ?_)))))
  have hr := Option.some.inj h
  subst hr
  exact rmA (res_tmp h4) h0
end
def e46 (F : Nat) : Ent := ent 46 (fun (x : ((Od Int (Int × Int)) × Int × Unit)) => w_markDecomposition F x.1 x.2.1) (fun (r : (Int × (Od Int (Int × Int)))) => (.tup [Enc.enc (r.1 : Int), .agg [encN pinR [0] (r.2.a : NL (NL Int)), encO (.at pinR [1]) (r.2.v : NL (Int × Int))]])) pinR false []
theorem p46 {F : Nat} {x0 : (Od Int (Int × Int))} {x1 : Int} {r : (Int × (Od Int (Int × Int)))} (h : w_markDecomposition F x0 x1 = some r) : (e46 F).den [Arg.arg x0, Enc.enc x1] = some (.tup [Enc.enc (r.1 : Int), .agg [encN pinR [0] (r.2.a : NL (NL Int)), encO (.at pinR [1]) (r.2.v : NL (Int × Int))]]) := ent_put (x0, x1, ()) h
theorem o46 {D : Den} {σ : Sig} {F : Nat} (hF : Fits2 Try.prog D σ) (H : H46 D σ F) : (e46 F).Ok Try.prog := by
  refine ok_of (f := 46) (show unk 46 = 46 from rfl) (fun args r h => ?_) ⟨Try.f46, Try.func46, rfl, rfl⟩
  obtain ⟨⟨x0, x1, _⟩, y, rfl, hy, rfl⟩ := da_open h
  exact contractM_run hF (by kernel_rfl) Try.func46 rfl c46 (all_ok2 rfl rfl) (show 2 ≤ Try.f46.ntmps by decide) (by decide) (t46 H x0 x1 _ ⟨rfl, rfl⟩ hy)
/- loop.example/g01109/laws.heldIntS -/
def A31_2 : AC := (.cond (.t 9) .skip (.exit 0))
def A31_4 : AC := (.cond (.t 17) (.seq (.reg [] [((jv 4 (.mov (jn (-1)))))] []) .ret) .skip)
def A31_5 : AC := (.reg [] [(jm 18 1), ((jv 19 (.bin .add (.t 18) (jn 1)))), (jm 1 19)] [])
def A31_6 : AC := (.reg [] [(jm 10 5), ((jv 11 (.bin .add (.t 10) (jn 1)))), (jm 5 11)] [])
def A31_3 : AC := (.seq (.block 1 (.seq (.seq (.reg [] [(jm 12 0), (jm 13 5), ((jv 14 (.idx (.t 12) (.t 13) 1))), ((jv 15 (.load .s (.t 14)))), (jm 16 1), ((jv 17 (.bin .neq (.t 15) (.t 16))))] []) A31_4) A31_5)) A31_6)
def A31_1 : AC := (.seq (.seq (.reg [] [(jm 6 5), (jm 7 0), ((jv 8 (.len (.t 7)))), ((jv 9 (.bin .lss (.t 6) (.t 8))))] []) A31_2) A31_3)
def A31_7 : AC := (.seq (.reg [] [(jm 20 1), (jm 4 20)] []) .ret)
def A31_9 : AC := (.block 0 (.loop A31_1))
def A31_8 : AC := (.seq (.seq (.reg [] [((jv 5 (.mov (jn 0))))] []) A31_9) A31_7)
def A31 : AC := (.seq (.reg [] [((jv 4 (.mov (jn 0))))] []) A31_8)
def an31 : List An := []
theorem c31 : cC Try.prog Try.f31.ntmps an31 (Try.f31.body.getD .skip) = some A31 := by kernel_rfl
structure H31 (D : Den) (σ : Sig) (F : Nat) : Prop where
  mk ::
abbrev R31 (r : Int) : (Nat → V) → Prop := RR Try.prog [.tmp 4] 0 false (Enc.enc (r : Int))
section
variable {D : Den} {σ : Sig} {F : Nat} {r : Int}
def w_heldIntS_l1 (F : Nat) (x_1 : (List Int))  : Nat → Int → Int → Option Int
  | 0, _, _ => none
  | k + 1, x_4, x_5 =>
    bif decide (x_5 < (x_1.length : Int)) then
      (idx x_1 x_5).bind fun e_7 =>
      bif (e_7 != x_4) then
        some (-1)
      else
        (w_heldIntS_l1 F x_1 k) (w64 (x_4 + 1)) (w64 (x_5 + 1))
    else
      some x_4
theorem t_f31_l1 (H : H31 D σ F) (x_1 : (List Int))  : ∀ (k : Nat) (x_4 : Int) (x_5 : Int) (s : Nat → V), Facts [(0, (eL x_1)), (1, (ji x_4)), (4, (ji 0)), (5, (ji x_5))] s → w_heldIntS_l1 F x_1 k x_4 x_5 = some r → Run D σ (R31 r) (.run A31_1 [.lp A31_1, .bk 0, .sq A31_7]) s := by
  intro k
  induction k with
  | zero => intro x_4 x_5 s _ h; exact nomatch (h : (none : Option _) = some r)
  | succ k ih =>
    intro x_4 x_5 s hs h
    rw [w_heldIntS_l1] at h
    obtain ⟨h0, h1, h4, h5⟩ := hs
    refine .seq (.seq (rg (gm h5 fun h6 => gm h0 fun h7 => gv (ji (x_1.length : Int)) (ev_len (xs := x_1) h7) fun h8 => ?_)))
    refine g2 6 8 (jb (decide (x_5 < (x_1.length : Int)))) h6 h8 fun h9 => ?_
    refine gq (.nsq (run_cond (t := decide (x_5 < (x_1.length : Int))) h9 h (fun h => ?_) (fun h => ?_)))
    · refine .skip (.nsq (.seq (.block (.seq (.seq (rg (gm h0 fun h12 => gm h5 fun h13 => ?_)))))))
      obtain ⟨e_7, E_e_7, h⟩ := bind_some h
      refine gv (.ref .sh 0 [] (ji e_7)) (ev_idx (t := .sh) (lo := 0) (xs := x_1) h12 h13 E_e_7 rfl rfl) fun h14 => ?_
      refine g1 14 (ji e_7) h14 fun h15 => ?_
      refine gm h1 fun h16 => g2 15 16 (jb (e_7 != x_4)) h15 h16 fun h17 => ?_
      refine gq (.nsq (run_cond (t := (e_7 != x_4)) h17 h (fun h => ?_) (fun h => ?_)))
      · refine .seq (rg (g0 (ji (-1)) fun h4 => ?_))
        refine gq (.nsq (.ret ?_))
        have hr := Option.some.inj h
        subst hr
        exact rrA (res_tmp h4) rfl
      refine .skip (.nsq (rg (gm h1 fun h18 => g1 18 (ji (w64 (x_4 + 1))) h18 fun h19 => ?_)))
      refine gm h19 fun h1 => gq (.nbk (.nsq (rg (gm h5 fun h10 => g1 10 (ji (w64 (x_5 + 1))) h10 fun h11 => ?_))))
      refine gm h11 fun h5 => gq (.nlp ?_)
      exact ih (w64 (x_4 + 1)) (w64 (x_5 + 1)) _ ⟨h0, h1, h4, h5⟩ h
    refine .exit (.esq (.elp (.ebk (.nsq (.seq (rg (gm h1 fun h20 => gm h20 fun h4 => gq (.nsq (.ret ?_)))))))))
    have hr := Option.some.inj h
    subst hr
    exact rrA (res_tmp h4) rfl
def w_heldIntS (F : Nat) (x_1 : (List Int)) (x_2 : Int) : Option Int :=
  w_heldIntS_l1 F x_1 F x_2 0
theorem t31 (H : H31 D σ F) (x_1 : (List Int)) (x_2 : Int) (s : Nat → V) (hs : Facts [(0, (eL x_1)), (1, (ji x_2))] s) (h : w_heldIntS F x_1 x_2 = some r) : Run D σ (R31 r) (.run A31 []) s := by
  unfold w_heldIntS at h
  obtain ⟨h0, h1⟩ := hs
  refine .seq (rg (g0 (ji 0) fun h4 => gq (.nsq (.seq (.seq (rg (g0 (ji 0) fun h5 => gq (.nsq (.block (.loop ?_))))))))))
  exact t_f31_l1 H x_1 F x_2 0 _ ⟨h0, h1, h4, h5⟩ h
end
def e31 (F : Nat) : Ent := ent 31 (fun (x : ((List Int) × Int × Unit)) => w_heldIntS F x.1 x.2.1) (fun (r : Int) => (Enc.enc (r : Int))) 0 false []
theorem p31 {F : Nat} {x0 : (List Int)} {x1 : Int} {r : Int} (h : w_heldIntS F x0 x1 = some r) : (e31 F).den [Enc.enc x0, Enc.enc x1] = some (Enc.enc (r : Int)) := ent_put (x0, x1, ()) h
theorem o31 {D : Den} {σ : Sig} {F : Nat} (hF : Fits2 Try.prog D σ) (H : H31 D σ F) : (e31 F).Ok Try.prog := by
  refine ok_of (f := 31) (show unk 31 = 31 from rfl) (fun args r h => ?_) ⟨Try.f31, Try.func31, rfl, rfl⟩
  obtain ⟨⟨x0, x1, _⟩, y, rfl, hy, rfl⟩ := da_open h
  exact contract_run hF (by kernel_rfl) Try.func31 rfl c31 (show 2 ≤ Try.f31.ntmps by decide) (t31 H x0 x1 _ ⟨rfl, rfl⟩ hy)
/- loop.example/g01109/laws.heldIntSS -/
def A38_2 : AC := (.cond (.t 9) .skip (.exit 0))
def A38_5 : AC := (.cond (.t 19) (.seq (.reg [] [((jv 4 (.mov (jn (-1)))))] []) .ret) .skip)
def A38_4 : AC := (.seq (.reg [] [(jm 18 1), ((jv 19 (.bin .lss (.t 18) (jn 0))))] []) A38_5)
def A38_6 : AC := (.reg [] [(jm 10 5), ((jv 11 (.bin .add (.t 10) (jn 1)))), (jm 5 11)] [])
def A38_3 : AC := (.seq (.block 1 (.seq (.reg [] [(jm 12 0), (jm 13 5), ((jv 14 (.idx (.t 12) (.t 13) 1))), ((jv 15 (.load .p (.t 14)))), (jm 16 1), (.mk (some 17) none false (.call (.k (.fn 31 [] [])) [(.t 15), (.t 16)])), (jm 1 17)] []) A38_4)) A38_6)
def A38_1 : AC := (.seq (.seq (.reg [] [(jm 6 5), (jm 7 0), ((jv 8 (.len (.t 7)))), ((jv 9 (.bin .lss (.t 6) (.t 8))))] []) A38_2) A38_3)
def A38_7 : AC := (.seq (.reg [] [(jm 20 1), (jm 4 20)] []) .ret)
def A38_9 : AC := (.block 0 (.loop A38_1))
def A38_8 : AC := (.seq (.seq (.reg [] [((jv 5 (.mov (jn 0))))] []) A38_9) A38_7)
def A38 : AC := (.seq (.reg [] [((jv 4 (.mov (jn 0))))] []) A38_8)
def an38 : List An := []
theorem c38 : cC Try.prog Try.f38.ntmps an38 (Try.f38.body.getD .skip) = some A38 := by kernel_rfl
structure H38 (D : Den) (σ : Sig) (F : Nat) : Prop where
  c31 : ∀ (x0 : (List Int)) (x1 : Int) r, w_heldIntS F x0 x1 = some r → D 31 [Enc.enc x0, Enc.enc x1] = some (Enc.enc (r : Int))
  g31 : σ 31 = some (0, false)
abbrev R38 (r : Int) : (Nat → V) → Prop := RR Try.prog [.tmp 4] 0 false (Enc.enc (r : Int))
section
variable {D : Den} {σ : Sig} {F : Nat} {r : Int}
def w_heldIntSS_l1 (F : Nat) (x_1 : (List (List Int)))  : Nat → Int → Int → Option Int
  | 0, _, _ => none
  | k + 1, x_5, x_6 =>
    bif decide (x_6 < (x_1.length : Int)) then
      (idx x_1 x_6).bind fun e_9 =>
      (w_heldIntS F e_9 x_5).bind fun r_10 =>
      bif decide (r_10 < 0) then
        some (-1)
      else
        (w_heldIntSS_l1 F x_1 k) r_10 (w64 (x_6 + 1))
    else
      some x_5
theorem t_f38_l1 (H : H38 D σ F) (x_1 : (List (List Int)))  : ∀ (k : Nat) (x_5 : Int) (x_6 : Int) (s : Nat → V), Facts [(0, (Enc.enc (x_1 : List (List Int)))), (1, (ji x_5)), (4, (ji 0)), (5, (ji x_6))] s → w_heldIntSS_l1 F x_1 k x_5 x_6 = some r → Run D σ (R38 r) (.run A38_1 [.lp A38_1, .bk 0, .sq A38_7]) s := by
  intro k
  induction k with
  | zero => intro x_5 x_6 s _ h; exact nomatch (h : (none : Option _) = some r)
  | succ k ih =>
    intro x_5 x_6 s hs h
    rw [w_heldIntSS_l1] at h
    obtain ⟨h0, h1, h4, h5⟩ := hs
    refine .seq (.seq (rg (gm h5 fun h6 => gm h0 fun h7 => gv (ji (x_1.length : Int)) (ev_len (xs := x_1) h7) fun h8 => ?_)))
    refine g2 6 8 (jb (decide (x_6 < (x_1.length : Int)))) h6 h8 fun h9 => ?_
    refine gq (.nsq (run_cond (t := decide (x_6 < (x_1.length : Int))) h9 h (fun h => ?_) (fun h => ?_)))
    · refine .skip (.nsq (.seq (.block (.seq (rg (gm h0 fun h12 => gm h5 fun h13 => ?_))))))
      obtain ⟨e_9, E_e_9, h⟩ := bind_some h
      refine gv (.ref .sh 0 [] (eL e_9)) (ev_idx (t := .sh) (lo := 0) (xs := x_1) h12 h13 E_e_9 rfl rfl) fun h14 => ?_
      refine g1 14 (eL e_9) h14 fun h15 => ?_
      refine gm h1 fun h16 => ?_
      obtain ⟨r_10, E_r_10, h⟩ := bind_some h
      refine g_call (m := 0) (al := false) (r := (Enc.enc (r_10 : Int))) [Enc.enc (e_9 : (List Int)), Enc.enc (x_5 : Int)] (ta_cons (v := (eL e_9)) h15 rfl (Enc.erase_enc (e_9 : (List Int))) (ta_cons (v := (ji x_5)) h16 rfl rfl ta_nil)) (H.c31 _ _ _ E_r_10) H.g31 rfl rfl rfl rfl ?_
      refine gm (rfl : (_ : V) = (ji r_10)) fun h1 => ?_
      refine gq (.nsq (.seq (rg (gm h1 fun h18 => g1 18 (jb (decide (r_10 < 0))) h18 fun h19 => ?_))))
      refine gq (.nsq (run_cond (t := decide (r_10 < 0)) h19 h (fun h => ?_) (fun h => ?_)))
      · refine .seq (rg (g0 (ji (-1)) fun h4 => ?_))
        refine gq (.nsq (.ret ?_))
        have hr := Option.some.inj h
        subst hr
        exact rrA (res_tmp h4) rfl
      refine .skip (.nbk (.nsq (rg (gm h5 fun h10 => g1 10 (ji (w64 (x_6 + 1))) h10 fun h11 => ?_))))
      refine gm h11 fun h5 => gq (.nlp ?_)
      exact ih r_10 (w64 (x_6 + 1)) _ ⟨h0, h1, h4, h5⟩ h
    refine .exit (.esq (.elp (.ebk (.nsq (.seq (rg (gm h1 fun h20 => gm h20 fun h4 => gq (.nsq (.ret ?_)))))))))
    have hr := Option.some.inj h
    subst hr
    exact rrA (res_tmp h4) rfl
def w_heldIntSS (F : Nat) (x_1 : (List (List Int))) (x_2 : Int) : Option Int :=
  w_heldIntSS_l1 F x_1 F x_2 0
theorem t38 (H : H38 D σ F) (x_1 : (List (List Int))) (x_2 : Int) (s : Nat → V) (hs : Facts [(0, (Enc.enc (x_1 : List (List Int)))), (1, (ji x_2))] s) (h : w_heldIntSS F x_1 x_2 = some r) : Run D σ (R38 r) (.run A38 []) s := by
  unfold w_heldIntSS at h
  obtain ⟨h0, h1⟩ := hs
  refine .seq (rg (g0 (ji 0) fun h4 => gq (.nsq (.seq (.seq (rg (g0 (ji 0) fun h5 => gq (.nsq (.block (.loop ?_))))))))))
  exact t_f38_l1 H x_1 F x_2 0 _ ⟨h0, h1, h4, h5⟩ h
end
def e38 (F : Nat) : Ent := ent 38 (fun (x : ((List (List Int)) × Int × Unit)) => w_heldIntSS F x.1 x.2.1) (fun (r : Int) => (Enc.enc (r : Int))) 0 false []
theorem p38 {F : Nat} {x0 : (List (List Int))} {x1 : Int} {r : Int} (h : w_heldIntSS F x0 x1 = some r) : (e38 F).den [Enc.enc x0, Enc.enc x1] = some (Enc.enc (r : Int)) := ent_put (x0, x1, ()) h
theorem o38 {D : Den} {σ : Sig} {F : Nat} (hF : Fits2 Try.prog D σ) (H : H38 D σ F) : (e38 F).Ok Try.prog := by
  refine ok_of (f := 38) (show unk 38 = 38 from rfl) (fun args r h => ?_) ⟨Try.f38, Try.func38, rfl, rfl⟩
  obtain ⟨⟨x0, x1, _⟩, y, rfl, hy, rfl⟩ := da_open h
  exact contract_run hF (by kernel_rfl) Try.func38 rfl c38 (show 2 ≤ Try.f38.ntmps by decide) (t38 H x0 x1 _ ⟨rfl, rfl⟩ hy)
/- loop.example/g01109/laws.heldIntA2S -/
def A70_2 : AC := (.cond (.t 10) .skip (.exit 0))
def A70_6 : AC := (.cond (.t 14) .skip (.exit 2))
def A70_8 : AC := (.cond (.t 24) (.seq (.reg [] [((jv 4 (.mov (jn (-1)))))] []) .ret) .skip)
def A70_9 : AC := (.reg [] [(jm 25 1), ((jv 26 (.bin .add (.t 25) (jn 1)))), (jm 1 26)] [])
def A70_10 : AC := (.reg [] [(jm 15 6), ((jv 16 (.bin .add (.t 15) (jn 1)))), (jm 6 16)] [])
def A70_7 : AC := (.seq (.block 3 (.seq (.seq (.reg [] [(jm 17 0), (jm 18 5), (jm 19 6), ((jv 20 (.idx (.t 17) (.t 18) 2))), ((jv 21 (.idxA (.t 20) (.t 19) 2 1))), ((jv 22 (.load .s (.t 21)))), (jm 23 1), ((jv 24 (.bin .neq (.t 22) (.t 23))))] []) A70_8) A70_9)) A70_10)
def A70_5 : AC := (.seq (.seq (.reg [] [(jm 13 6), ((jv 14 (.bin .lss (.t 13) (jn 2))))] []) A70_6) A70_7)
def A70_4 : AC := (.block 2 (.loop A70_5))
def A70_11 : AC := (.reg [] [(jm 11 5), ((jv 12 (.bin .add (.t 11) (jn 1)))), (jm 5 12)] [])
def A70_3 : AC := (.seq (.block 1 (.seq (.reg [] [((jv 6 (.mov (jn 0))))] []) A70_4)) A70_11)
def A70_1 : AC := (.seq (.seq (.reg [] [(jm 7 5), (jm 8 0), ((jv 9 (.len (.t 8)))), ((jv 10 (.bin .lss (.t 7) (.t 9))))] []) A70_2) A70_3)
def A70_12 : AC := (.seq (.reg [] [(jm 27 1), (jm 4 27)] []) .ret)
def A70_14 : AC := (.block 0 (.loop A70_1))
def A70_13 : AC := (.seq (.seq (.reg [] [((jv 5 (.mov (jn 0))))] []) A70_14) A70_12)
def A70 : AC := (.seq (.reg [] [((jv 4 (.mov (jn 0))))] []) A70_13)
def an70 : List An := []
theorem c70 : cC Try.prog Try.f70.ntmps an70 (Try.f70.body.getD .skip) = some A70 := by kernel_rfl
structure H70 (D : Den) (σ : Sig) (F : Nat) : Prop where
  mk ::
abbrev R70 (r : Int) : (Nat → V) → Prop := RR Try.prog [.tmp 4] 0 false (Enc.enc (r : Int))
section
variable {D : Den} {σ : Sig} {F : Nat} {r : Int}
def w_heldIntA2S_l1 (F : Nat) (x_1 : (List (Int × Int))) (x_11 : Int) (c1 : Int → Int → Option Int) : Nat → Int → Int → Option Int
  | 0, _, _ => none
  | k + 1, x_20, x_21 =>
    bif decide (x_21 < 2) then
      (idx x_1 x_11).bind fun e_24 =>
      (idx [e_24.1, e_24.2] x_21).bind fun e_25 =>
      bif (e_25 != x_20) then
        some (-1)
      else
        (w_heldIntA2S_l1 F x_1 x_11 c1 k) (w64 (x_20 + 1)) (w64 (x_21 + 1))
    else
      c1 x_20 (w64 (x_11 + 1))
theorem t_f70_l1 (H : H70 D σ F) (x_1 : (List (Int × Int))) (x_11 : Int) (c1 : Int → Int → Option Int) (Hc1 : ∀ (x_10 : Int) (x_11 : Int) (s : Nat → V), Facts [(0, (Enc.enc (x_1 : List (Int × Int)))), (1, (ji x_10)), (4, (ji 0)), (5, (ji x_11))] s → c1 x_10 x_11 = some r → Run D σ (R70 r) (.run A70_1 [.lp A70_1, .bk 0, .sq A70_12]) s) : ∀ (k : Nat) (x_20 : Int) (x_21 : Int) (s : Nat → V), Facts [(0, (Enc.enc (x_1 : List (Int × Int)))), (1, (ji x_20)), (4, (ji 0)), (5, (ji x_11)), (6, (ji x_21))] s → w_heldIntA2S_l1 F x_1 x_11 c1 k x_20 x_21 = some r → Run D σ (R70 r) (.run A70_5 [.lp A70_5, .bk 2, .bk 1, .sq A70_11, .lp A70_1, .bk 0, .sq A70_12]) s := by
  intro k
  induction k with
  | zero => intro x_20 x_21 s _ h; exact nomatch (h : (none : Option _) = some r)
  | succ k ih =>
    intro x_20 x_21 s hs h
    rw [w_heldIntA2S_l1] at h
    obtain ⟨h0, h1, h4, h5, h6⟩ := hs
    refine .seq (.seq (rg (gm h6 fun h13 => g1 13 (jb (decide (x_21 < 2))) h13 fun h14 => ?_)))
    refine gq (.nsq (run_cond (t := decide (x_21 < 2)) h14 h (fun h => ?_) (fun h => ?_)))
    · refine .skip (.nsq (.seq (.block (.seq (.seq (rg (gm h0 fun h17 => gm h5 fun h18 => gm h6 fun h19 => ?_)))))))
      obtain ⟨e_24, E_e_24, h⟩ := bind_some h
      refine gv (.ref .sh 0 [] (.agg [(ji e_24.1), (ji e_24.2)])) (ev_idx (t := .sh) (lo := 0) (xs := x_1) h17 h18 E_e_24 rfl rfl) fun h20 => ?_
      obtain ⟨e_25, E_e_25, h⟩ := bind_some h
      refine gv (.ref .sh 0 [x_21.toNat] (ji e_25)) (ev_idxA (xs := [e_24.1, e_24.2]) (a := e_25) (n := x_21) (q := []) h20 h19 E_e_25 rfl rfl rfl) fun h21 => ?_
      refine g1 21 (ji e_25) h21 fun h22 => ?_
      refine gm h1 fun h23 => g2 22 23 (jb (e_25 != x_20)) h22 h23 fun h24 => ?_
      refine gq (.nsq (run_cond (t := (e_25 != x_20)) h24 h (fun h => ?_) (fun h => ?_)))
      · refine .seq (rg (g0 (ji (-1)) fun h4 => ?_))
        refine gq (.nsq (.ret ?_))
        have hr := Option.some.inj h
        subst hr
        exact rrA (res_tmp h4) rfl
      refine .skip (.nsq (rg (gm h1 fun h25 => g1 25 (ji (w64 (x_20 + 1))) h25 fun h26 => ?_)))
      refine gm h26 fun h1 => gq (.nbk (.nsq (rg (gm h6 fun h15 => g1 15 (ji (w64 (x_21 + 1))) h15 fun h16 => ?_))))
      refine gm h16 fun h6 => gq (.nlp ?_)
      exact ih (w64 (x_20 + 1)) (w64 (x_21 + 1)) _ ⟨h0, h1, h4, h5, h6⟩ h
    refine .exit (.esq (.elp (.ebk (.nbk (.nsq (rg (gm h5 fun h11 => g1 11 (ji (w64 (x_11 + 1))) h11 fun h12 => ?_)))))))
    refine gm h12 fun h5 => gq (.nlp ?_)
    exact Hc1 x_20 (w64 (x_11 + 1)) _ ⟨h0, h1, h4, h5⟩ h
def w_heldIntA2S_l2 (F : Nat) (x_1 : (List (Int × Int)))  : Nat → Int → Int → Option Int
  | 0, _, _ => none
  | k + 1, x_10, x_11 =>
    bif decide (x_11 < (x_1.length : Int)) then
      w_heldIntA2S_l1 F x_1 x_11 (w_heldIntA2S_l2 F x_1 k) F x_10 0
    else
      some x_10
theorem t_f70_l2 (H : H70 D σ F) (x_1 : (List (Int × Int)))  : ∀ (k : Nat) (x_10 : Int) (x_11 : Int) (s : Nat → V), Facts [(0, (Enc.enc (x_1 : List (Int × Int)))), (1, (ji x_10)), (4, (ji 0)), (5, (ji x_11))] s → w_heldIntA2S_l2 F x_1 k x_10 x_11 = some r → Run D σ (R70 r) (.run A70_1 [.lp A70_1, .bk 0, .sq A70_12]) s := by
  intro k
  induction k with
  | zero => intro x_10 x_11 s _ h; exact nomatch (h : (none : Option _) = some r)
  | succ k ih =>
    intro x_10 x_11 s hs h
    rw [w_heldIntA2S_l2] at h
    obtain ⟨h0, h1, h4, h5⟩ := hs
    refine .seq (.seq (rg (gm h5 fun h7 => gm h0 fun h8 => gv (ji (x_1.length : Int)) (ev_len (xs := x_1) h8) fun h9 => ?_)))
    refine g2 7 9 (jb (decide (x_11 < (x_1.length : Int)))) h7 h9 fun h10 => ?_
    refine gq (.nsq (run_cond (t := decide (x_11 < (x_1.length : Int))) h10 h (fun h => ?_) (fun h => ?_)))
    · refine .skip (.nsq (.seq (.block (.seq (rg (g0 (ji 0) fun h6 => gq (.nsq (.block (.loop ?_)))))))))
      exact t_f70_l1 H x_1 x_11 (w_heldIntA2S_l2 F x_1 k) ih F x_10 0 _ ⟨h0, h1, h4, h5, h6⟩ h
    refine .exit (.esq (.elp (.ebk (.nsq (.seq (rg (gm h1 fun h27 => gm h27 fun h4 => gq (.nsq (.ret ?_)))))))))
    have hr := Option.some.inj h
    subst hr
    exact rrA (res_tmp h4) rfl
def w_heldIntA2S (F : Nat) (x_1 : (List (Int × Int))) (x_2 : Int) : Option Int :=
  w_heldIntA2S_l2 F x_1 F x_2 0
theorem t70 (H : H70 D σ F) (x_1 : (List (Int × Int))) (x_2 : Int) (s : Nat → V) (hs : Facts [(0, (Enc.enc (x_1 : List (Int × Int)))), (1, (ji x_2))] s) (h : w_heldIntA2S F x_1 x_2 = some r) : Run D σ (R70 r) (.run A70 []) s := by
  unfold w_heldIntA2S at h
  obtain ⟨h0, h1⟩ := hs
  refine .seq (rg (g0 (ji 0) fun h4 => gq (.nsq (.seq (.seq (rg (g0 (ji 0) fun h5 => gq (.nsq (.block (.loop ?_))))))))))
  exact t_f70_l2 H x_1 F x_2 0 _ ⟨h0, h1, h4, h5⟩ h
end
def e70 (F : Nat) : Ent := ent 70 (fun (x : ((List (Int × Int)) × Int × Unit)) => w_heldIntA2S F x.1 x.2.1) (fun (r : Int) => (Enc.enc (r : Int))) 0 false []
theorem p70 {F : Nat} {x0 : (List (Int × Int))} {x1 : Int} {r : Int} (h : w_heldIntA2S F x0 x1 = some r) : (e70 F).den [Enc.enc x0, Enc.enc x1] = some (Enc.enc (r : Int)) := ent_put (x0, x1, ()) h
theorem o70 {D : Den} {σ : Sig} {F : Nat} (hF : Fits2 Try.prog D σ) (H : H70 D σ F) : (e70 F).Ok Try.prog := by
  refine ok_of (f := 70) (show unk 70 = 70 from rfl) (fun args r h => ?_) ⟨Try.f70, Try.func70, rfl, rfl⟩
  obtain ⟨⟨x0, x1, _⟩, y, rfl, hy, rfl⟩ := da_open h
  exact contract_run hF (by kernel_rfl) Try.func70 rfl c70 (show 2 ≤ Try.f70.ntmps by decide) (t70 H x0 x1 _ ⟨rfl, rfl⟩ hy)
/- loop.example/g01109/laws.heldDecomposition -/
def A47_3 : AC := (.cond (.t 10) (.seq (.reg [] [((jv 4 (.mov (jn (-1)))))] []) .ret) .skip)
def A47_6 : AC := (.cond (.t 16) (.seq (.reg [] [((jv 4 (.mov (jn (-1)))))] []) .ret) .skip)
def A47_7 : AC := (.seq (.reg [] [(jm 17 1), (jm 4 17)] []) .ret)
def A47_5 : AC := (.seq (.seq (.reg [] [(jm 15 1), ((jv 16 (.bin .lss (.t 15) (jn 0))))] []) A47_6) A47_7)
def A47_4 : AC := (.seq (.reg [] [((jv 11 (.fld (.t 2) 1 1))), ((jv 12 (.load .p (.t 11)))), (jm 13 1), (.mk (some 14) none false (.call (.k (.fn 70 [] [])) [(.t 12), (.t 13)])), (jm 1 14)] []) A47_5)
def A47_2 : AC := (.seq (.seq (.reg [] [(jm 9 1), ((jv 10 (.bin .lss (.t 9) (jn 0))))] []) A47_3) A47_4)
def A47_1 : AC := (.seq (.reg [] [((jv 5 (.fld (.t 2) 0 0))), ((jv 6 (.load .p (.t 5)))), (jm 7 1), (.mk (some 8) none false (.call (.k (.fn 38 [] [])) [(.t 6), (.t 7)])), (jm 1 8)] []) A47_2)
def A47 : AC := (.seq (.reg [.clr [2]] [(.mk (some 2) none false (.box (.t 0))), ((jv 4 (.mov (jn 0))))] []) A47_1)
def an47 : List An := [{ id := 0, pre := [.clr [2]], ep := [], lin := [], sp := [] }]
theorem c47 : cC Try.prog Try.f47.ntmps an47 (Try.f47.body.getD .skip) = some A47 := by kernel_rfl
structure H47 (D : Den) (σ : Sig) (F : Nat) : Prop where
  c38 : ∀ (x0 : (List (List Int))) (x1 : Int) r, w_heldIntSS F x0 x1 = some r → D 38 [Enc.enc x0, Enc.enc x1] = some (Enc.enc (r : Int))
  g38 : σ 38 = some (0, false)
  c70 : ∀ (x0 : (List (Int × Int))) (x1 : Int) r, w_heldIntA2S F x0 x1 = some r → D 70 [Enc.enc x0, Enc.enc x1] = some (Enc.enc (r : Int))
  g70 : σ 70 = some (0, false)
abbrev R47 (r : Int) : (Nat → V) → Prop := RR Try.prog [.tmp 4] 0 false (Enc.enc (r : Int))
section
variable {D : Den} {σ : Sig} {F : Nat} {r : Int}
def w_heldDecomposition (F : Nat) (x_1 : ((List (List Int)) × (List (Int × Int)))) (x_2 : Int) : Option Int :=
  (w_heldIntSS F x_1.1 x_2).bind fun r_3 =>
  bif decide (r_3 < 0) then
    some (-1)
  else
    (w_heldIntA2S F x_1.2 r_3).bind fun r_4 =>
    bif decide (r_4 < 0) then
      some (-1)
    else
      some r_4
theorem t47 (H : H47 D σ F) (x_1 : ((List (List Int)) × (List (Int × Int)))) (x_2 : Int) (s : Nat → V) (hs : Facts [(0, (.agg [(Enc.enc (x_1.1 : List (List Int))), (Enc.enc (x_1.2 : List (Int × Int)))])), (1, (ji x_2))] s) (h : w_heldDecomposition F x_1 x_2 = some r) : Run D σ (R47 r) (.run A47 []) s := by
  unfold w_heldDecomposition at h
  obtain ⟨h0, h1⟩ := hs
  refine .seq (run_reg ?_)
  refine e_clr ?_
  refine ez [(0, _), (1, _), (2, _)] ⟨(keep_clear (pk := [2]) h0 rfl (map_agg (maps_cons me (maps_cons me maps_nil)))), (keep_clear (pk := [2]) h1 rfl mi), (gone_clear (pk := [2]) (t := 2) rfl)⟩ ?_
  rintro s ⟨h0, h1, h2⟩
  refine g_box (.agg [(Enc.enc (x_1.1 : List (List Int))), (Enc.enc (x_1.2 : List (Int × Int)))]) (rd_of h0 rfl) h2 rfl ?_
  refine g0 (ji 0) fun h4 => gq (.nsq (.seq (rg (g1 2 (.ref (.bx 2) 0 [0] (Enc.enc (x_1.1 : List (List Int)))) (rfl : (_ : V) = (.ref (.bx 2) 0 [] (.agg [(Enc.enc (x_1.1 : List (List Int))), (Enc.enc (x_1.2 : List (Int × Int)))]))) fun h5 => ?_))))
  refine g1 5 (Enc.enc (x_1.1 : List (List Int))) h5 fun h6 => ?_
  refine gm h1 fun h7 => ?_
  obtain ⟨r_3, E_r_3, h⟩ := bind_some h
  refine g_call (m := 0) (al := false) (r := (Enc.enc (r_3 : Int))) [Enc.enc (x_1.1 : (List (List Int))), Enc.enc (x_2 : Int)] (ta_cons (v := (Enc.enc (x_1.1 : List (List Int)))) h6 rfl (Enc.erase_enc (x_1.1 : (List (List Int)))) (ta_cons (v := (ji x_2)) h7 rfl rfl ta_nil)) (H.c38 _ _ _ E_r_3) H.g38 rfl rfl rfl rfl ?_
  refine gm (rfl : (_ : V) = (ji r_3)) fun h1 => ?_
  refine gq (.nsq (.seq (.seq (rg (gm h1 fun h9 => g1 9 (jb (decide (r_3 < 0))) h9 fun h10 => ?_)))))
  refine gq (.nsq (run_cond (t := decide (r_3 < 0)) h10 h (fun h => ?_) (fun h => ?_)))
  · refine .seq (rg (g0 (ji (-1)) fun h4 => ?_))
    refine gq (.nsq (.ret ?_))
    have hr := Option.some.inj h
    subst hr
    exact rrA (res_tmp h4) rfl
  refine .skip (.nsq (.seq (rg (g1 2 (.ref (.bx 2) 0 [1] (Enc.enc (x_1.2 : List (Int × Int)))) (rfl : (_ : V) = (.ref (.bx 2) 0 [] (.agg [(Enc.enc (x_1.1 : List (List Int))), (Enc.enc (x_1.2 : List (Int × Int)))]))) fun h11 => ?_))))
  refine g1 11 (Enc.enc (x_1.2 : List (Int × Int))) h11 fun h12 => ?_
  refine gm h1 fun h13 => ?_
  obtain ⟨r_4, E_r_4, h⟩ := bind_some h
  refine g_call (m := 0) (al := false) (r := (Enc.enc (r_4 : Int))) [Enc.enc (x_1.2 : (List (Int × Int))), Enc.enc (r_3 : Int)] (ta_cons (v := (Enc.enc (x_1.2 : List (Int × Int)))) h12 rfl (Enc.erase_enc (x_1.2 : (List (Int × Int)))) (ta_cons (v := (ji r_3)) h13 rfl rfl ta_nil)) (H.c70 _ _ _ E_r_4) H.g70 rfl rfl rfl rfl ?_
  refine gm (rfl : (_ : V) = (ji r_4)) fun h1 => ?_
  refine gq (.nsq (.seq (.seq (rg (gm h1 fun h15 => g1 15 (jb (decide (r_4 < 0))) h15 fun h16 => ?_)))))
  refine gq (.nsq (run_cond (t := decide (r_4 < 0)) h16 h (fun h => ?_) (fun h => ?_)))
  · refine .seq (rg (g0 (ji (-1)) fun h4 => ?_))
    refine gq (.nsq (.ret ?_))
    have hr := Option.some.inj h
    subst hr
    exact rrA (res_tmp h4) rfl
  refine .skip (.nsq (.seq (rg (gm h1 fun h17 => gm h17 fun h4 => gq (.nsq (.ret ?_))))))
  have hr := Option.some.inj h
  subst hr
  exact rrA (res_tmp h4) rfl
end
def e47 (F : Nat) : Ent := ent 47 (fun (x : (((List (List Int)) × (List (Int × Int))) × Int × Unit)) => w_heldDecomposition F x.1 x.2.1) (fun (r : Int) => (Enc.enc (r : Int))) 0 false []
theorem p47 {F : Nat} {x0 : ((List (List Int)) × (List (Int × Int)))} {x1 : Int} {r : Int} (h : w_heldDecomposition F x0 x1 = some r) : (e47 F).den [Enc.enc x0, Enc.enc x1] = some (Enc.enc (r : Int)) := ent_put (x0, x1, ()) h
theorem o47 {D : Den} {σ : Sig} {F : Nat} (hF : Fits2 Try.prog D σ) (H : H47 D σ F) : (e47 F).Ok Try.prog := by
  refine ok_of (f := 47) (show unk 47 = 47 from rfl) (fun args r h => ?_) ⟨Try.f47, Try.func47, rfl, rfl⟩
  obtain ⟨⟨x0, x1, _⟩, y, rfl, hy, rfl⟩ := da_open h
  exact contract_run hF (by kernel_rfl) Try.func47 rfl c47 (show 2 ≤ Try.f47.ntmps by decide) (t47 H x0 x1 _ ⟨rfl, rfl⟩ hy)
/- loop.example/g01109/laws.FnExactDecompositionOf -/
def A10_1 : AC := (.cond (.t 108) (.seq (.reg [] [((jv 4 (.mov (.k (.bool false)))))] []) .ret) .skip)
def A10_5 : AC := (.cond (.t 113) (.seq (.reg [] [((jv 4 (.mov (.k (.bool false)))))] []) .ret) .skip)
def A10_7 : AC := (.cond (.t 116) (.seq (.reg [] [((jv 4 (.mov (.k (.bool false)))))] []) .ret) .skip)
def A10_8 : AC := (.seq (.reg [] [((jv 4 (.mov (.k (.bool true)))))] []) .ret)
def A10_6 : AC := (.seq (.seq (.reg [] [(jm 114 14), (jm 115 13), ((jv 116 (.bin .neq (.t 114) (.t 115))))] []) A10_7) A10_8)
def A10_4 : AC := (.seq (.seq (.reg [] [(jm 112 14), ((jv 113 (.bin .lss (.t 112) (jn 0))))] []) A10_5) A10_6)
def A10_3 : AC := (.seq (.reg [] [((jv 109 (.load (.ag [.p, .p]) (.t 10)))), (jm 110 14), (.mk (some 111) none false (.call (.k (.fn 47 [] [])) [(.t 109), (.t 110)])), (jm 14 111)] []) A10_4)
def A10_2 : AC := (.seq (.reg [] [((jv 14 (.mov (jn 1))))] []) A10_3)
def A10_9 : AC := (.cond (.t 80) (.seq (.reg [] [((jv 4 (.mov (.k (.bool false)))))] []) .ret) .skip)
def A10_15 : AC := (.cond (.t 88) (.seq (.reg [] [((jv 4 (.mov (.k (.bool false)))))] []) .ret) .skip)
def A10_17 : AC := (.cond (.t 91) (.seq (.reg [] [((jv 4 (.mov (.k (.bool false)))))] []) .ret) .skip)
def A10_19 : AC := (.seq (.seq (.reg [] [((jv 100 (.load (.ag [.p, .p]) (.t 15)))), ((jv 101 (.load (.ag [.p, .p]) (.t 6)))), (.mk (some 102) none false (.call (.k (.fn 45 [] [])) [(.t 100), (.t 101)])), ((jv 103 (.un .not (.t 102)))), (jm 104 103), ((jg 105 104 false (.mov (.t 16)))), ((jg 106 104 false (.mov (.t 7)))), ((jg 107 104 false (.beq true (.t 105) (.t 106)))), ((jv 108 (.pick (.t 104) (.k (.bool true)) (.t 107))))] []) A10_1) A10_2)
def A10_18 : AC := (.seq (.reg [.clr [97, 15]] [((jv 93 (.load (.ag [.s, .p]) (.t 2)))), (.mk (some 94) none false (.call (.k (.fn 17 [] [])) [(.t 93)])), (jm 95 1), (.mk (some 96) none false (.call (.k (.fn 18 [] [])) [(.t 95)])), (.mk (some 97) none false (.callO (.k (.fn 44 [] [])) [(.t 94), (.t 96)])), (jm 92 97), ((jv 98 (.ext (.t 92) 0))), ((jv 99 (.extS (.t 92) 1))), (.mk (some 15) none false (.alloc (.agg [(.sl .nl .p 0 []), (.sl .nl (.ag [.s, .s]) 0 [])]))), (.mk none none false (.store (.ag [.p, .p]) (.t 15) (.t 98))), (jm 16 99)] []) A10_19)
def A10_16 : AC := (.seq (.seq (.reg [] [(jm 89 14), (jm 90 13), ((jv 91 (.bin .neq (.t 89) (.t 90))))] []) A10_17) A10_18)
def A10_14 : AC := (.seq (.seq (.reg [] [(jm 87 14), ((jv 88 (.bin .lss (.t 87) (jn 0))))] []) A10_15) A10_16)
def A10_13 : AC := (.seq (.reg [] [((jv 84 (.load (.ag [.p, .p]) (.t 10)))), (jm 85 14), (.mk (some 86) none false (.call (.k (.fn 47 [] [])) [(.t 84), (.t 85)])), (jm 14 86)] []) A10_14)
def A10_12 : AC := (.seq (.reg [] [((jv 14 (.mov (jn 1))))] []) A10_13)
def A10_11 : AC := (.seq (.reg [] [((jv 81 (.load (.ag [.p, .p]) (.t 10)))), (jm 82 13), (.mk (some 83) none false (.mark (.k (.fn 46 [] [])) [(.t 81), (.t 82)])), (jm 13 83)] []) A10_12)
def A10_10 : AC := (.seq (.reg [] [((jv 13 (.mov (jn 1))))] []) A10_11)
def A10_20 : AC := (.cond (.t 51) (.seq (.reg [] [((jv 4 (.mov (.k (.bool false)))))] []) .ret) .skip)
def A10_22 : AC := (.cond (.t 56) (.seq (.reg [] [((jv 4 (.mov (.k (.bool false)))))] []) .ret) .skip)
def A10_24 : AC := (.cond (.t 61) (.seq (.reg [] [((jv 4 (.mov (.k (.bool false)))))] []) .ret) .skip)
def A10_28 : AC := (.seq (.seq (.reg [] [(jm 68 12), ((jv 69 (.bin .lss (.t 68) (jn 0)))), (jm 70 69), ((jg 71 70 false (.load (.ag [.p, .p]) (.t 10)))), ((jg 72 70 false (.load (.ag [.p, .p]) (.t 6)))), (.mk (some 73) (some (70, false)) false (.call (.k (.fn 45 [] [])) [(.t 71), (.t 72)])), ((jg 74 70 false (.un .not (.t 73)))), ((jv 75 (.pick (.t 70) (.k (.bool true)) (.t 74)))), (jm 76 75), ((jg 77 76 false (.mov (.t 11)))), ((jg 78 76 false (.mov (.t 7)))), ((jg 79 76 false (.beq true (.t 77) (.t 78)))), ((jv 80 (.pick (.t 76) (.k (.bool true)) (.t 79))))] []) A10_9) A10_10)
def A10_27 : AC := (.seq (.reg [] [(jm 65 9), (jm 66 12), (.mk (some 67) none false (.mark (.k (.fn 23 [] [])) [(.t 65), (.t 66)])), (jm 12 67)] []) A10_28)
def A10_26 : AC := (.seq (.reg [] [((jv 62 (.load (.ag [.s, .p]) (.t 8)))), (jm 63 12), (.mk (some 64) none false (.mark (.k (.fn 22 [] [])) [(.t 62), (.t 63)])), (jm 12 64)] []) A10_27)
def A10_25 : AC := (.seq (.reg [] [((jv 12 (.mov (jn 1))))] []) A10_26)
def A10_23 : AC := (.seq (.seq (.reg [] [(jm 57 9), (jm 58 1), (.mk (some 59) none false (.call (.k (.fn 18 [] [])) [(.t 58)])), (.mk (some 60) none false (.call (.k (.fn 21 [] [])) [(.t 57), (.t 59)])), ((jv 61 (.un .not (.t 60))))] []) A10_24) A10_25)
def A10_21 : AC := (.seq (.seq (.reg [] [((jv 52 (.load (.ag [.s, .p]) (.t 8)))), ((jv 53 (.load (.ag [.s, .p]) (.t 2)))), (.mk (some 54) none false (.call (.k (.fn 17 [] [])) [(.t 53)])), (.mk (some 55) none false (.call (.k (.fn 20 [] [])) [(.t 52), (.t 54)])), ((jv 56 (.un .not (.t 55))))] []) A10_22) A10_23)
def A10_30 : AC := (.cond (.t 19) (.seq (.reg [] [((jv 4 (.mov (.k (.bool true)))))] []) .ret) .skip)
def A10_34 : AC := (.cond (.t 24) (.seq (.reg [] [((jv 4 (.mov (.k (.bool true)))))] []) .ret) .skip)
def A10_39 : AC := (.seq (.seq (.reg [] [((jv 43 (.load (.ag [.p, .p]) (.t 10)))), ((jv 44 (.load (.ag [.p, .p]) (.t 6)))), (.mk (some 45) none false (.call (.k (.fn 45 [] [])) [(.t 43), (.t 44)])), ((jv 46 (.un .not (.t 45)))), (jm 47 46), ((jg 48 47 false (.mov (.t 11)))), ((jg 49 47 false (.mov (.t 7)))), ((jg 50 47 false (.beq true (.t 48) (.t 49)))), ((jv 51 (.pick (.t 47) (.k (.bool true)) (.t 50))))] []) A10_20) A10_21)
def A10_38 : AC := (.seq (.reg [.clr [40, 10]] [((jv 38 (.load (.ag [.s, .p]) (.t 8)))), (jm 39 9), (.mk (some 40) none false (.callO (.k (.fn 44 [] [])) [(.t 38), (.t 39)])), (jm 37 40), ((jv 41 (.ext (.t 37) 0))), ((jv 42 (.extS (.t 37) 1))), (.mk (some 10) none false (.alloc (.agg [(.sl .nl .p 0 []), (.sl .nl (.ag [.s, .s]) 0 [])]))), (.mk none none false (.store (.ag [.p, .p]) (.t 10) (.t 41))), (jm 11 42)] []) A10_39)
def A10_37 : AC := (.seq (.reg [.clr [36]] [(jm 35 1), (.mk (some 36) none false (.callO (.k (.fn 18 [] [])) [(.t 35)])), (jm 9 36)] [.home 36 9]) A10_38)
def A10_36 : AC := (.seq (.reg [.clr [34, 8]] [((jv 33 (.load (.ag [.s, .p]) (.t 2)))), (.mk (some 34) none false (.callO (.k (.fn 17 [] [])) [(.t 33)])), (.mk (some 8) none false (.alloc (.agg [(.int .i64 (.ofNat 0)), (.sl .nl (.ag [.s, .s]) 0 [])]))), (.mk none none false (.store (.ag [.s, .p]) (.t 8) (.t 34)))] []) A10_37)
def A10_35 : AC := (.seq (.reg [.clr [6]] [((jv 26 (.load (.ag [.s, .p]) (.t 2)))), (.mk (some 27) none false (.call (.k (.fn 17 [] [])) [(.t 26)])), (jm 28 1), (.mk (some 29) none false (.call (.k (.fn 18 [] [])) [(.t 28)])), (.mk (some 30) none false (.call (.k (.fn 43 [] [])) [(.t 27), (.t 29)])), (jm 25 30), ((jv 31 (.ext (.t 25) 0))), ((jv 32 (.extS (.t 25) 1))), (.mk (some 6) none false (.alloc (.agg [(.sl .nl .p 0 []), (.sl .nl (.ag [.s, .s]) 0 [])]))), (.mk none none false (.store (.ag [.p, .p]) (.t 6) (.t 31))), (jm 7 32)] []) A10_36)
def A10_33 : AC := (.seq (.seq (.reg [] [(jm 23 5), ((jv 24 (.bin .lss (.t 23) (jn 0))))] []) A10_34) A10_35)
def A10_32 : AC := (.seq (.reg [] [((jv 20 (.load (.ag [.s, .p]) (.t 2)))), (jm 21 5), (.mk (some 22) none false (.call (.k (.fn 15 [] [])) [(.t 20), (.t 21)])), (jm 5 22)] []) A10_33)
def A10_31 : AC := (.seq (.reg [] [((jv 5 (.mov (jn 1048576))))] []) A10_32)
def A10_29 : AC := (.seq (.seq (.reg [] [(jm 17 1), ((jv 18 (.len (.t 17)))), ((jv 19 (.bin .gtr (.t 18) (jn 1048576))))] []) A10_30) A10_31)
def A10 : AC := (.seq (.reg [.clr [2]] [(.mk (some 2) none false (.box (.t 0))), ((jv 4 (.mov (.k (.bool false)))))] []) A10_29)
def an10 : List An := [{ id := 0, pre := [.clr [2]], ep := [], lin := [], sp := [] }, { id := 7, pre := [.clr [6]], ep := [], lin := [], sp := [] }, { id := 8, pre := [.clr [34, 8]], ep := [], lin := [], sp := [1001] }, { id := 9, pre := [.clr [36]], ep := [.home 36 9], lin := [], sp := [1001] }, { id := 10, pre := [.clr [40, 10]], ep := [], lin := [], sp := [1002] }, { id := 18, pre := [], ep := [], lin := [], sp := [2] }, { id := 19, pre := [], ep := [], lin := [], sp := [2] }, { id := 23, pre := [], ep := [], lin := [], sp := [2] }, { id := 30, pre := [.clr [97, 15]], ep := [], lin := [], sp := [1004] }]
theorem c10 : cC Try.prog Try.f10.ntmps an10 (Try.f10.body.getD .skip) = some A10 := by kernel_rfl
structure H10 (D : Den) (σ : Sig) (F : Nat) : Prop where
  c15 : ∀ (x0 : (Int × (List (Int × Int)))) (x1 : Int) r, w_szGraph F x0 x1 = some r → D 15 [Enc.enc x0, Enc.enc x1] = some (Enc.enc (r : Int))
  g15 : σ 15 = some (0, false)
  c17 : ∀ (x0 : (Int × (List (Int × Int)))) r, w_toGraph F x0 = some r → D 17 [Enc.enc x0] = some (Enc.enc (r : (Int × (List (Int × Int)))))
  g17 : σ 17 = some (0, true)
  c18 : ∀ (x0 : (List Int)) r, w_toIntS F x0 = some r → D 18 [Enc.enc x0] = some (Enc.enc (r : (List Int)))
  g18 : σ 18 = some (0, false)
  c43 : ∀ (x0 : (Int × (List (Int × Int)))) (x1 : (List Int)) r, s_DecompositionOf F x0 x1 = some r → D 43 [Enc.enc x0, Enc.enc x1] = some (.tup [Enc.enc (r.1 : ((List (List Int)) × (List (Int × Int)))), Enc.enc (r.2 : Bool)])
  g43 : σ 43 = some (0, true)
  c17o : ∀ (x0 : (Int × (List (Int × Int)))) r, w_toGraph_o F x0 = some r → D 1000000017 [Enc.enc x0] = some (.agg [(Enc.enc (r.1 : Int)), (encO .sh (r.2 : NL (Int × Int)))])
  g17o : σ 1000000017 = some (1, false)
  c18o : ∀ (x0 : (List Int)) r, w_toIntS_o F x0 = some r → D 1000000018 [Enc.enc x0] = some (encO .sh (r : NL Int))
  g18o : σ 1000000018 = some (1, false)
  c44o : ∀ (x0 : (Int × (List (Int × Int)))) (x1 : (List Int)) r, i_DecompositionOf_o F x0 x1 = some r → D 1000000044 [Enc.enc x0, Enc.enc x1] = some (.tup [(.agg [(encNs (r.1.1 : NL (NL Int))), (encO .sh (r.1.2 : NL (Int × Int)))]), (Enc.enc (r.2 : Bool))])
  g44o : σ 1000000044 = some (2, false)
  c45 : ∀ (x0 : ((List (List Int)) × (List (Int × Int)))) (x1 : ((List (List Int)) × (List (Int × Int)))) r, w_eqDecomposition F x0 x1 = some r → D 45 [Enc.enc x0, Enc.enc x1] = some (Enc.enc (r : Bool))
  g45 : σ 45 = some (0, false)
  c20 : ∀ (x0 : (Int × (List (Int × Int)))) (x1 : (Int × (List (Int × Int)))) r, w_eqGraph F x0 x1 = some r → D 20 [Enc.enc x0, Enc.enc x1] = some (Enc.enc (r : Bool))
  g20 : σ 20 = some (0, false)
  c21 : ∀ (x0 : (List Int)) (x1 : (List Int)) r, w_eqIntS F x0 x1 = some r → D 21 [Enc.enc x0, Enc.enc x1] = some (Enc.enc (r : Bool))
  g21 : σ 21 = some (0, false)
  c22 : ∀ (x0 : (Og (Int × Int))) (x1 : Int) r, w_markGraph F x0 x1 = some r → D 22 [Arg.arg x0, Enc.enc x1] = some (.tup [Enc.enc (r.1 : Int), .agg [Enc.enc (r.2.a : Int), encO (.at pinR [1]) (r.2.v : NL (Int × Int))]])
  g22 : σ 22 = some (pinR, false)
  c23 : ∀ (x0 : (On Int)) (x1 : Int) r, w_markIntS F x0 x1 = some r → D 23 [Arg.arg x0, Enc.enc x1] = some (.tup [Enc.enc (r.1 : Int), encO (.at pinR []) (r.2 : NL Int)])
  g23 : σ 23 = some (pinR, false)
  c46 : ∀ (x0 : (Od Int (Int × Int))) (x1 : Int) r, w_markDecomposition F x0 x1 = some r → D 46 [Arg.arg x0, Enc.enc x1] = some (.tup [Enc.enc (r.1 : Int), .agg [encN pinR [0] (r.2.a : NL (NL Int)), encO (.at pinR [1]) (r.2.v : NL (Int × Int))]])
  g46 : σ 46 = some (pinR, false)
  c47 : ∀ (x0 : ((List (List Int)) × (List (Int × Int)))) (x1 : Int) r, w_heldDecomposition F x0 x1 = some r → D 47 [Enc.enc x0, Enc.enc x1] = some (Enc.enc (r : Int))
  g47 : σ 47 = some (0, false)
abbrev R10 (r : Bool) : (Nat → V) → Prop := RR Try.prog [.tmp 4] 0 false (Enc.enc (r : Bool))
section
variable {D : Den} {σ : Sig} {F : Nat} {r : Bool}
def w_FnExactDecompositionOf_j1 (F : Nat) (m_21 : (Od Int (Int × Int))) (r_20 : (Int × (Od Int (Int × Int))))  (x_27 : Bool) : Option Bool :=
  bif x_27 then
    some false
  else
    (w_heldDecomposition F ((List.map NL.list m_21.a.list), m_21.v.list) 1).bind fun r_28 =>
    bif decide (r_28 < 0) then
      some false
    else
      bif (r_28 != r_20.1) then
        some false
      else
        some true
theorem t_f10_j1 (H : H10 D σ F) (m_21 : (Od Int (Int × Int))) (r_20 : (Int × (Od Int (Int × Int))))  (x_27 : Bool) (s : Nat → V) (hs : Facts [(4, (jb false)), (10, (.ref (.bx 10) 0 [] (.agg [(encN 40 [0, 0] (m_21.a : NL (NL Int))), (encO (.at 40 [0, 1]) (m_21.v : NL (Int × Int)))]))), (13, (ji r_20.1)), (108, (jb x_27))] s) (h : w_FnExactDecompositionOf_j1 F m_21 r_20  x_27 = some r) : Run D σ (R10 r) (.nrm [.sq A10_1, .sq A10_2]) s := by
  unfold w_FnExactDecompositionOf_j1 at h
  obtain ⟨h4, h10, h13, h108⟩ := hs
  refine .nsq (run_cond (t := x_27) h108 h (fun h => ?_) (fun h => ?_))
  · refine .seq (rg (g0 (jb false) fun h4 => ?_))
    refine gq (.nsq (.ret ?_))
    have hr := Option.some.inj h
    subst hr
    exact rrA (res_tmp h4) rfl
  refine .skip (.nsq (.seq (rg (g0 (ji 1) fun h14 => gq (.nsq (.seq (rg (gv (.agg [(encN 40 [0, 0] (m_21.a : NL (NL Int))), (encO (.at 40 [0, 1]) (m_21.v : NL (Int × Int)))]) (ev_loadN (c := (.agg [(encN 40 [0, 0] (m_21.a : NL (NL Int))), (encO (.at 40 [0, 1]) (m_21.v : NL (Int × Int)))])) h10 (by simp [V.shape, V.shapes, shape_encP, shape_encN, Sh.beq, Sh.beqs])) fun h109 => ?_))))))))
  refine gm h14 fun h110 => ?_
  obtain ⟨r_28, E_r_28, h⟩ := bind_some h
  refine g_call (m := 0) (al := false) (r := (Enc.enc (r_28 : Int))) [Enc.enc (((List.map NL.list m_21.a.list), m_21.v.list) : ((List (List Int)) × (List (Int × Int)))), Enc.enc (1 : Int)] (ta_cons (v := (.agg [(encN 40 [0, 0] (m_21.a : NL (NL Int))), (encO (.at 40 [0, 1]) (m_21.v : NL (Int × Int)))])) h109 rfl (erase_agg (erases_cons (erase_encN (o := (m_21.a : NL (NL Int)))) (erases_cons (erase_encO (o := m_21.v)) erases_nil))) (ta_cons (v := (ji 1)) h110 rfl rfl ta_nil)) (H.c47 _ _ _ E_r_28) H.g47 rfl rfl rfl rfl ?_
  refine gm (rfl : (_ : V) = (ji r_28)) fun h14 => ?_
  refine gq (.nsq (.seq (.seq (rg (gm h14 fun h112 => g1 112 (jb (decide (r_28 < 0))) h112 fun h113 => ?_)))))
  refine gq (.nsq (run_cond (t := decide (r_28 < 0)) h113 h (fun h => ?_) (fun h => ?_)))
  · refine .seq (rg (g0 (jb false) fun h4 => ?_))
    refine gq (.nsq (.ret ?_))
    have hr := Option.some.inj h
    subst hr
    exact rrA (res_tmp h4) rfl
  refine .skip (.nsq (.seq (.seq (rg (gm h14 fun h114 => gm h13 fun h115 => g2 114 115 (jb (r_28 != r_20.1)) h114 h115 fun h116 => ?_)))))
  refine gq (.nsq (run_cond (t := (r_28 != r_20.1)) h116 h (fun h => ?_) (fun h => ?_)))
  · refine .seq (rg (g0 (jb false) fun h4 => ?_))
    refine gq (.nsq (.ret ?_))
    have hr := Option.some.inj h
    subst hr
    exact rrA (res_tmp h4) rfl
  refine .skip (.nsq (.seq (rg (g0 (jb true) fun h4 => ?_))))
  refine gq (.nsq (.ret ?_))
  have hr := Option.some.inj h
  subst hr
  exact rrA (res_tmp h4) rfl
def w_FnExactDecompositionOf_j2 (F : Nat) (x_2 : (List Int)) (x_1 : (Int × (List (Int × Int)))) (r_6 : (((List (List Int)) × (List (Int × Int))) × Bool)) (r_9 : (((NL (NL Int)) × (NL (Int × Int))) × Bool))  (x_19 : Bool) : Option Bool :=
  bif x_19 then
    some false
  else
    (w_markDecomposition F (Od.mk r_9.1.1 r_9.1.2 : (Od Int (Int × Int))) 1).bind fun r_20 =>
    (remarkD r_9.1.1 r_9.1.2 r_20.2).bind fun m_21 =>
    (w_heldDecomposition F ((List.map NL.list m_21.a.list), m_21.v.list) 1).bind fun r_22 =>
    bif decide (r_22 < 0) then
      some false
    else
      bif (r_22 != r_20.1) then
        some false
      else
        (w_toGraph F x_1).bind fun r_23 =>
        (w_toIntS F x_2).bind fun r_24 =>
        (i_DecompositionOf_o F r_23 r_24).bind fun r_25 =>
        (w_eqDecomposition F ((List.map NL.list r_25.1.1.list), r_25.1.2.list) r_6.1).bind fun r_29 =>
        bif (!r_29) then
          w_FnExactDecompositionOf_j1 F m_21 r_20 true
        else
          w_FnExactDecompositionOf_j1 F m_21 r_20 (r_25.2 != r_6.2)
theorem t_f10_j2 (H : H10 D σ F) (x_2 : (List Int)) (x_1 : (Int × (List (Int × Int)))) (r_6 : (((List (List Int)) × (List (Int × Int))) × Bool)) (r_9 : (((NL (NL Int)) × (NL (Int × Int))) × Bool))  (x_19 : Bool) (s : Nat → V) (hs : Facts [(1, (eL x_2)), (2, (.ref (.bx 2) 0 [] (.agg [(ji x_1.1), (Enc.enc (x_1.2 : List (Int × Int)))]))), (4, (jb false)), (6, (.ref (.bx 6) 0 [] (.agg [(Enc.enc (r_6.1.1 : List (List Int))), (Enc.enc (r_6.1.2 : List (Int × Int)))]))), (7, (jb r_6.2)), (10, (.ref (.bx 10) 0 [] (.agg [(encN 40 [0, 0] (r_9.1.1 : NL (NL Int))), (encO (.at 40 [0, 1]) (r_9.1.2 : NL (Int × Int)))]))), (80, (jb x_19))] s) (h : w_FnExactDecompositionOf_j2 F x_2 x_1 r_6 r_9  x_19 = some r) : Run D σ (R10 r) (.nrm [.sq A10_9, .sq A10_10]) s := by
  unfold w_FnExactDecompositionOf_j2 at h
  obtain ⟨h1, h2, h4, h6, h7, h10, h80⟩ := hs
  refine .nsq (run_cond (t := x_19) h80 h (fun h => ?_) (fun h => ?_))
  · refine .seq (rg (g0 (jb false) fun h4 => ?_))
    refine gq (.nsq (.ret ?_))
    have hr := Option.some.inj h
    subst hr
    exact rrA (res_tmp h4) rfl
  refine .skip (.nsq (.seq (rg (g0 (ji 1) fun h13 => gq (.nsq (.seq (rg (gv (.agg [(encN 40 [0, 0] (r_9.1.1 : NL (NL Int))), (encO (.at 40 [0, 1]) (r_9.1.2 : NL (Int × Int)))]) (ev_loadN (c := (.agg [(encN 40 [0, 0] (r_9.1.1 : NL (NL Int))), (encO (.at 40 [0, 1]) (r_9.1.2 : NL (Int × Int)))])) h10 (by simp [V.shape, V.shapes, shape_encP, shape_encN, Sh.beq, Sh.beqs])) fun h81 => ?_))))))))
  refine gm h13 fun h82 => ?_
  obtain ⟨r_20, E_r_20, h⟩ := bind_some h
  obtain ⟨m_21, E_m_21, h⟩ := bind_some h
  refine g_mark (v := (.agg [(encN 40 [0, 0] (r_9.1.1 : NL (NL Int))), (encO (.at 40 [0, 1]) (r_9.1.2 : NL (Int × Int)))])) h81 (canon_D (o := (r_9.1.1 : NL (NL Int))) (o' := (r_9.1.2 : NL (Int × Int))) rfl rfl (nodup_D rfl (fun _ => rfl))) (rdAll_cons (v := (ji 1)) h82 rfl rdAll_nil) (H.c46 _ _ _ E_r_20) H.g46 rfl rfl (fun s_9 hm_9 => ?_)
  refine gm (rfl : (_ : V) = (ji r_20.1)) fun h13 => ?_
  refine gz [(1, _), (2, (.ref (.bx 2) 0 [] (.agg [(ji x_1.1), (Enc.enc (x_1.2 : List (Int × Int)))]))), (4, (jb false)), (6, (.ref (.bx 6) 0 [] (.agg [(Enc.enc (r_6.1.1 : List (List Int))), (Enc.enc (r_6.1.2 : List (Int × Int)))]))), (7, (jb r_6.2)), (10, (.ref (.bx 10) 0 [] (.agg [(encN 40 [0, 0] (m_21.a : NL (NL Int))), (encO (.at 40 [0, 1]) (m_21.v : NL (Int × Int)))]))), (13, _)] ⟨(show s_9 1 = (eL x_2) from hm_9 1 (eL x_2) (eL x_2) h1 (rem_enc (xs := (x_2 : List Int)))), (show s_9 2 = (.ref (.bx 2) 0 [] (.agg [(ji x_1.1), (Enc.enc (x_1.2 : List (Int × Int)))])) from hm_9 2 (.ref (.bx 2) 0 [] (.agg [(ji x_1.1), (Enc.enc (x_1.2 : List (Int × Int)))])) (.ref (.bx 2) 0 [] (.agg [(ji x_1.1), (Enc.enc (x_1.2 : List (Int × Int)))])) h2 (rem_self _ (map_bx (kill_app killN_bx (killO_ne rfl)) (map_agg (maps_cons rfl (maps_cons (Enc.map_enc _ (x_1.2 : List (Int × Int))) maps_nil)))))), (show s_9 4 = (jb false) from hm_9 4 (jb false) (jb false) h4 (rem_self _ rfl)), (show s_9 6 = (.ref (.bx 6) 0 [] (.agg [(Enc.enc (r_6.1.1 : List (List Int))), (Enc.enc (r_6.1.2 : List (Int × Int)))])) from hm_9 6 (.ref (.bx 6) 0 [] (.agg [(Enc.enc (r_6.1.1 : List (List Int))), (Enc.enc (r_6.1.2 : List (Int × Int)))])) (.ref (.bx 6) 0 [] (.agg [(Enc.enc (r_6.1.1 : List (List Int))), (Enc.enc (r_6.1.2 : List (Int × Int)))])) h6 (rem_self _ (map_bx (kill_app killN_bx (killO_ne rfl)) (map_agg (maps_cons (Enc.map_enc _ (r_6.1.1 : List (List Int))) (maps_cons (Enc.map_enc _ (r_6.1.2 : List (Int × Int))) maps_nil)))))), (show s_9 7 = (jb r_6.2) from hm_9 7 (jb r_6.2) (jb r_6.2) h7 (rem_self _ rfl)), (show s_9 10 = (.ref (.bx 10) 0 [] (.agg [(encN 40 [0, 0] (m_21.a : NL (NL Int))), (encO (.at 40 [0, 1]) (m_21.v : NL (Int × Int)))])) from hm_9 10 (.ref (.bx 10) 0 [] (.agg [(encN 40 [0, 0] (r_9.1.1 : NL (NL Int))), (encO (.at 40 [0, 1]) (r_9.1.2 : NL (Int × Int)))])) (.ref (.bx 10) 0 [] (.agg [(encN 40 [0, 0] (m_21.a : NL (NL Int))), (encO (.at 40 [0, 1]) (m_21.v : NL (Int × Int)))])) h10 (rem_bxK (kill_app killN_bx (killO_ne rfl)) (rem_agg (rems_cons (marked_DN (o := (r_9.1.1 : NL (NL Int))) (o' := (r_9.1.2 : NL (Int × Int))) rfl rfl E_m_21) (rems_cons (marked_DO (o := (r_9.1.1 : NL (NL Int))) (o' := (r_9.1.2 : NL (Int × Int))) rfl rfl rfl (fun _ => rfl) E_m_21) rems_nil))))), h13⟩ ?_
  rintro s ⟨h1, h2, h4, h6, h7, h10, h13⟩
  refine .nsq (.seq (rg (g0 (ji 1) fun h14 => gq (.nsq (.seq (rg (gv (.agg [(encN 40 [0, 0] (m_21.a : NL (NL Int))), (encO (.at 40 [0, 1]) (m_21.v : NL (Int × Int)))]) (ev_loadN (c := (.agg [(encN 40 [0, 0] (m_21.a : NL (NL Int))), (encO (.at 40 [0, 1]) (m_21.v : NL (Int × Int)))])) h10 (by simp [V.shape, V.shapes, shape_encP, shape_encN, Sh.beq, Sh.beqs])) fun h84 => ?_)))))))
  refine gm h14 fun h85 => ?_
  obtain ⟨r_22, E_r_22, h⟩ := bind_some h
  refine g_call (m := 0) (al := false) (r := (Enc.enc (r_22 : Int))) [Enc.enc (((List.map NL.list m_21.a.list), m_21.v.list) : ((List (List Int)) × (List (Int × Int)))), Enc.enc (1 : Int)] (ta_cons (v := (.agg [(encN 40 [0, 0] (m_21.a : NL (NL Int))), (encO (.at 40 [0, 1]) (m_21.v : NL (Int × Int)))])) h84 rfl (erase_agg (erases_cons (erase_encN (o := (m_21.a : NL (NL Int)))) (erases_cons (erase_encO (o := m_21.v)) erases_nil))) (ta_cons (v := (ji 1)) h85 rfl rfl ta_nil)) (H.c47 _ _ _ E_r_22) H.g47 rfl rfl rfl rfl ?_
  refine gm (rfl : (_ : V) = (ji r_22)) fun h14 => ?_
  refine gq (.nsq (.seq (.seq (rg (gm h14 fun h87 => g1 87 (jb (decide (r_22 < 0))) h87 fun h88 => ?_)))))
  refine gq (.nsq (run_cond (t := decide (r_22 < 0)) h88 h (fun h => ?_) (fun h => ?_)))
  · refine .seq (rg (g0 (jb false) fun h4 => ?_))
    refine gq (.nsq (.ret ?_))
    have hr := Option.some.inj h
    subst hr
    exact rrA (res_tmp h4) rfl
  refine .skip (.nsq (.seq (.seq (rg (gm h14 fun h89 => gm h13 fun h90 => g2 89 90 (jb (r_22 != r_20.1)) h89 h90 fun h91 => ?_)))))
  refine gq (.nsq (run_cond (t := (r_22 != r_20.1)) h91 h (fun h => ?_) (fun h => ?_)))
  · refine .seq (rg (g0 (jb false) fun h4 => ?_))
    refine gq (.nsq (.ret ?_))
    have hr := Option.some.inj h
    subst hr
    exact rrA (res_tmp h4) rfl
  refine .skip (.nsq (.seq (run_reg ?_)))
  refine e_clr ?_
  refine ez [(1, _), (2, _), (4, _), (6, _), (7, _), (10, _), (13, _), (15, _), (97, _)] ⟨(keep_clear (pk := [97, 15]) h1 rfl me), (keep_clear (pk := [97, 15]) h2 rfl (map_bx rfl (map_agg (maps_cons mi (maps_cons me maps_nil))))), (keep_clear (pk := [97, 15]) h4 rfl mb), (keep_clear (pk := [97, 15]) h6 rfl (map_bx rfl (map_agg (maps_cons me (maps_cons me maps_nil))))), (keep_clear (pk := [97, 15]) h7 rfl mb), (keep_clear (pk := [97, 15]) h10 rfl (map_bx rfl (map_agg (maps_cons (map_encN (r := 40) (p := [0, 0]) rfl (fun _ => rfl) rfl) (maps_cons (map_encO (r := 40) (p := [0, 1]) rfl rfl) maps_nil))))), (keep_clear (pk := [97, 15]) h13 rfl mi), (gone_clear (pk := [97, 15]) (t := 15) rfl), (gone_clear (pk := [97, 15]) (t := 97) rfl)⟩ ?_
  rintro s ⟨h1, h2, h4, h6, h7, h10, h13, h15, h97⟩
  refine g1 2 (.agg [(ji x_1.1), (Enc.enc (x_1.2 : List (Int × Int)))]) h2 fun h93 => ?_
  obtain ⟨r_23, E_r_23, h⟩ := bind_some h
  refine g_call (m := 0) (al := true) (r := (Enc.enc (r_23 : (Int × (List (Int × Int)))))) [Enc.enc (x_1 : (Int × (List (Int × Int))))] (ta_cons (v := (.agg [(ji x_1.1), (Enc.enc (x_1.2 : List (Int × Int)))])) h93 rfl (Enc.erase_enc (x_1 : (Int × (List (Int × Int))))) ta_nil) (H.c17 _ _ E_r_23) H.g17 (hal_of (ht_cons (v := (.agg [(ji x_1.1), (Enc.enc (x_1.2 : List (Int × Int)))])) h93 rfl rfl ht_nil)) rfl rfl rfl ?_
  refine gm h1 fun h95 => ?_
  obtain ⟨r_24, E_r_24, h⟩ := bind_some h
  refine g_call (m := 0) (al := false) (r := (Enc.enc (r_24 : (List Int)))) [Enc.enc (x_2 : (List Int))] (ta_cons (v := (eL x_2)) h95 rfl (Enc.erase_enc (x_2 : (List Int))) ta_nil) (H.c18 _ _ E_r_24) H.g18 rfl rfl rfl rfl ?_
  obtain ⟨r_25, E_r_25, h⟩ := bind_some h
  refine g_callO (m := 2) (al := false) (r := (.tup [(.agg [(encNs (r_25.1.1 : NL (NL Int))), (encO .sh (r_25.1.2 : NL (Int × Int)))]), (Enc.enc (r_25.2 : Bool))])) (v := (.tup [(.agg [(encN 97 [0, 0] (r_25.1.1 : NL (NL Int))), (encO (.at 97 [0, 1]) (r_25.1.2 : NL (Int × Int)))]), (jb r_25.2)])) (kk := 1000000044) [Enc.enc (r_23 : (Int × (List (Int × Int)))), Enc.enc (r_24 : (List Int))] (ta_cons (v := (.agg [(ji r_23.1), (Enc.enc (r_23.2 : List (Int × Int)))])) rfl rfl (Enc.erase_enc (r_23 : (Int × (List (Int × Int))))) (ta_cons (v := (eL r_24)) rfl rfl (Enc.erase_enc (r_24 : (List Int))) ta_nil)) (H.c44o _ _ _ E_r_25) H.g44o rfl (toks_tup (tokss_cons (toks_agg (tokss_cons toks_encNs (tokss_cons toks_encS tokss_nil))) (tokss_cons rfl tokss_nil))) (tag_tup (tags_cons (tag_agg (tags_cons (tag_encN rfl) (tags_cons (tag2_encO rfl) tags_nil))) (tags_cons rfl tags_nil))) rfl h97 ?_
  refine gm (rfl : (_ : V) = (.tup [(.agg [(encN 97 [0, 0] (r_25.1.1 : NL (NL Int))), (encO (.at 97 [0, 1]) (r_25.1.2 : NL (Int × Int)))]), (jb r_25.2)])) fun h92 => ?_
  refine gv (.agg [(encN 97 [0, 0] (r_25.1.1 : NL (NL Int))), (encO (.at 97 [0, 1]) (r_25.1.2 : NL (Int × Int)))]) (ev_extN (v := (.agg [(encN 97 [0, 0] (r_25.1.1 : NL (NL Int))), (encO (.at 97 [0, 1]) (r_25.1.2 : NL (Int × Int)))])) h92 rfl rfl) fun h98 => ?_
  refine g1 92 (jb r_25.2) h92 fun h99 => ?_
  refine g_alloc h15 ?_
  refine g_store (.agg [(encN 97 [0, 0] (r_25.1.1 : NL (NL Int))), (encO (.at 97 [0, 1]) (r_25.1.2 : NL (Int × Int)))]) (rd_of rfl rfl) (rd_of h98 rfl) ⟨by decide, by decide, rfl, (by simp [V.shape, V.shapes, shape_encP, shape_encN, Sh.beq, Sh.beqs]), (by simp [V.shape, V.shapes, shape_encP, shape_encN, Sh.beq, Sh.beqs]), (by simp [V.toks, V.tokss, tok_memP, tok_memN])⟩ ?_
  refine gm (keep_mut h99 rfl) fun h16 => ?_
  refine gz [(4, (jb false)), (6, (.ref (.bx 6) 0 [] (.agg [(Enc.enc (r_6.1.1 : List (List Int))), (Enc.enc (r_6.1.2 : List (Int × Int)))]))), (7, (jb r_6.2)), (10, (.ref (.bx 10) 0 [] (.agg [(encN 40 [0, 0] (m_21.a : NL (NL Int))), (encO (.at 40 [0, 1]) (m_21.v : NL (Int × Int)))]))), (13, (ji r_20.1)), (15, (.ref (.bx 15) 0 [] (.agg [(encN 97 [0, 0] (r_25.1.1 : NL (NL Int))), (encO (.at 97 [0, 1]) (r_25.1.2 : NL (Int × Int)))]))), (16, _)] ⟨(keep_mut h4 rfl), (keep_mut h6 (mut_ref_ne rfl rfl (mut_agg (muts_cons (Enc.mut_enc _ _ _ _ (r_6.1.1 : List (List Int))) (muts_cons (Enc.mut_enc _ _ _ _ (r_6.1.2 : List (Int × Int))) rfl))))), (keep_mut h7 rfl), (keep_mut h10 (mut_ref_ne rfl rfl (mut_agg (muts_cons (mut_N_ne rfl (fun _ => rfl) rfl) (muts_cons (mut_own_ne rfl rfl) rfl))))), (keep_mut h13 rfl), (keep_mut rfl rfl), h16⟩ ?_
  rintro s ⟨h4, h6, h7, h10, h13, h15, h16⟩
  refine .nsq (.seq (.seq (rg (gv (.agg [(encN 97 [0, 0] (r_25.1.1 : NL (NL Int))), (encO (.at 97 [0, 1]) (r_25.1.2 : NL (Int × Int)))]) (ev_loadN (c := (.agg [(encN 97 [0, 0] (r_25.1.1 : NL (NL Int))), (encO (.at 97 [0, 1]) (r_25.1.2 : NL (Int × Int)))])) h15 (by simp [V.shape, V.shapes, shape_encP, shape_encN, Sh.beq, Sh.beqs])) fun h100 => ?_))))
  refine g1 6 (.agg [(Enc.enc (r_6.1.1 : List (List Int))), (Enc.enc (r_6.1.2 : List (Int × Int)))]) h6 fun h101 => ?_
  obtain ⟨r_29, E_r_29, h⟩ := bind_some h
  refine g_call (m := 0) (al := false) (r := (Enc.enc (r_29 : Bool))) [Enc.enc (((List.map NL.list r_25.1.1.list), r_25.1.2.list) : ((List (List Int)) × (List (Int × Int)))), Enc.enc (r_6.1 : ((List (List Int)) × (List (Int × Int))))] (ta_cons (v := (.agg [(encN 97 [0, 0] (r_25.1.1 : NL (NL Int))), (encO (.at 97 [0, 1]) (r_25.1.2 : NL (Int × Int)))])) h100 rfl (erase_agg (erases_cons (erase_encN (o := (r_25.1.1 : NL (NL Int)))) (erases_cons (erase_encO (o := r_25.1.2)) erases_nil))) (ta_cons (v := (.agg [(Enc.enc (r_6.1.1 : List (List Int))), (Enc.enc (r_6.1.2 : List (Int × Int)))])) h101 rfl (Enc.erase_enc (r_6.1 : ((List (List Int)) × (List (Int × Int))))) ta_nil)) (H.c45 _ _ _ E_r_29) H.g45 rfl rfl rfl rfl ?_
  refine g1 102 (jb (!r_29)) (rfl : (_ : V) = (jb r_29)) fun h103 => ?_
  refine gm h103 fun h104 => split_on (c := (!r_29)) h (fun hg5 h => ?_) (fun hg5 h => ?_)
  · refine g_no (h104.trans (congrArg V.bool hg5)) ?_
    refine g_no (h104.trans (congrArg V.bool hg5)) ?_
    refine g_no (h104.trans (congrArg V.bool hg5)) ?_
    refine g2 104 107 (jb true) (h104.trans (congrArg V.bool hg5)) (rfl : (_ : V) = (.tup [])) fun h108 => ?_
    refine gq ?_
    exact t_f10_j1 H m_21 r_20 true _ ⟨h4, h10, h13, h108⟩ h
  refine g_yes (h104.trans (congrArg V.bool hg5)) (gm h16 fun h105 => ?_)
  refine g_yes (h104.trans (congrArg V.bool hg5)) (gm h7 fun h106 => ?_)
  refine g_yes (h104.trans (congrArg V.bool hg5)) (g2 105 106 (jb (r_25.2 != r_6.2)) h105 h106 fun h107 => ?_)
  refine g2 104 107 (jb (r_25.2 != r_6.2)) (h104.trans (congrArg V.bool hg5)) h107 fun h108 => ?_
  refine gq ?_
  exact t_f10_j1 H m_21 r_20 (r_25.2 != r_6.2) _ ⟨h4, h10, h13, h108⟩ h
def w_FnExactDecompositionOf_j3 (F : Nat) (x_2 : (List Int)) (x_1 : (Int × (List (Int × Int)))) (r_6 : (((List (List Int)) × (List (Int × Int))) × Bool)) (r_7 : (Int × (NL (Int × Int)))) (r_8 : (NL Int)) (r_9 : (((NL (NL Int)) × (NL (Int × Int))) × Bool))  (x_11 : Bool) : Option Bool :=
  bif x_11 then
    some false
  else
    (w_toGraph F x_1).bind fun r_12 =>
    (w_eqGraph F (r_7.1, r_7.2.list) r_12).bind fun r_13 =>
    bif (!r_13) then
      some false
    else
      (w_toIntS F x_2).bind fun r_14 =>
      (w_eqIntS F r_8.list r_14).bind fun r_15 =>
      bif (!r_15) then
        some false
      else
        (w_markGraph F (Og.mk r_7.1 r_7.2 : (Og (Int × Int))) 1).bind fun r_16 =>
        (w_markIntS F (On.mk r_8 : (On Int)) r_16.1).bind fun r_17 =>
        bif decide (r_17.1 < 0) then
          w_FnExactDecompositionOf_j2 F x_2 x_1 r_6 r_9 true
        else
          (w_eqDecomposition F ((List.map NL.list r_9.1.1.list), r_9.1.2.list) r_6.1).bind fun r_30 =>
          bif (!r_30) then
            w_FnExactDecompositionOf_j2 F x_2 x_1 r_6 r_9 true
          else
            w_FnExactDecompositionOf_j2 F x_2 x_1 r_6 r_9 (r_9.2 != r_6.2)
theorem t_f10_j3 (H : H10 D σ F) (x_2 : (List Int)) (x_1 : (Int × (List (Int × Int)))) (r_6 : (((List (List Int)) × (List (Int × Int))) × Bool)) (r_7 : (Int × (NL (Int × Int)))) (r_8 : (NL Int)) (r_9 : (((NL (NL Int)) × (NL (Int × Int))) × Bool))  (x_11 : Bool) (s : Nat → V) (hs : Facts [(1, (eL x_2)), (2, (.ref (.bx 2) 0 [] (.agg [(ji x_1.1), (Enc.enc (x_1.2 : List (Int × Int)))]))), (4, (jb false)), (6, (.ref (.bx 6) 0 [] (.agg [(Enc.enc (r_6.1.1 : List (List Int))), (Enc.enc (r_6.1.2 : List (Int × Int)))]))), (7, (jb r_6.2)), (8, (.ref (.bx 8) 0 [] (.agg [(ji r_7.1), (encO (.at 34 [1]) (r_7.2 : NL (Int × Int)))]))), (9, (oI 9 [] r_8)), (10, (.ref (.bx 10) 0 [] (.agg [(encN 40 [0, 0] (r_9.1.1 : NL (NL Int))), (encO (.at 40 [0, 1]) (r_9.1.2 : NL (Int × Int)))]))), (11, (jb r_9.2)), (51, (jb x_11))] s) (h : w_FnExactDecompositionOf_j3 F x_2 x_1 r_6 r_7 r_8 r_9  x_11 = some r) : Run D σ (R10 r) (.nrm [.sq A10_20, .sq A10_21]) s := by
  unfold w_FnExactDecompositionOf_j3 at h
  obtain ⟨h1, h2, h4, h6, h7, h8, h9, h10, h11, h51⟩ := hs
  refine .nsq (run_cond (t := x_11) h51 h (fun h => ?_) (fun h => ?_))
  · refine .seq (rg (g0 (jb false) fun h4 => ?_))
    refine gq (.nsq (.ret ?_))
    have hr := Option.some.inj h
    subst hr
    exact rrA (res_tmp h4) rfl
  refine .skip (.nsq (.seq (.seq (rg (gv (.agg [(ji r_7.1), (encO (.at 34 [1]) (r_7.2 : NL (Int × Int)))]) (ev_loadN (c := (.agg [(ji r_7.1), (encO (.at 34 [1]) (r_7.2 : NL (Int × Int)))])) h8 (by simp [V.shape, V.shapes, shape_encP, shape_encN, Sh.beq, Sh.beqs])) fun h52 => ?_)))))
  refine g1 2 (.agg [(ji x_1.1), (Enc.enc (x_1.2 : List (Int × Int)))]) h2 fun h53 => ?_
  obtain ⟨r_12, E_r_12, h⟩ := bind_some h
  refine g_call (m := 0) (al := true) (r := (Enc.enc (r_12 : (Int × (List (Int × Int)))))) [Enc.enc (x_1 : (Int × (List (Int × Int))))] (ta_cons (v := (.agg [(ji x_1.1), (Enc.enc (x_1.2 : List (Int × Int)))])) h53 rfl (Enc.erase_enc (x_1 : (Int × (List (Int × Int))))) ta_nil) (H.c17 _ _ E_r_12) H.g17 (hal_of (ht_cons (v := (.agg [(ji x_1.1), (Enc.enc (x_1.2 : List (Int × Int)))])) h53 rfl rfl ht_nil)) rfl rfl rfl ?_
  obtain ⟨r_13, E_r_13, h⟩ := bind_some h
  refine g_call (m := 0) (al := false) (r := (Enc.enc (r_13 : Bool))) [Enc.enc ((r_7.1, r_7.2.list) : (Int × (List (Int × Int)))), Enc.enc (r_12 : (Int × (List (Int × Int))))] (ta_cons (v := (.agg [(ji r_7.1), (encO (.at 34 [1]) (r_7.2 : NL (Int × Int)))])) h52 rfl (erase_agg (erases_cons rfl (erases_cons (erase_encO (o := r_7.2)) erases_nil))) (ta_cons (v := (.agg [(ji r_12.1), (Enc.enc (r_12.2 : List (Int × Int)))])) rfl rfl (Enc.erase_enc (r_12 : (Int × (List (Int × Int))))) ta_nil)) (H.c20 _ _ _ E_r_13) H.g20 rfl rfl rfl rfl ?_
  refine g1 55 (jb (!r_13)) (rfl : (_ : V) = (jb r_13)) fun h56 => ?_
  refine gq (.nsq (run_cond (t := (!r_13)) h56 h (fun h => ?_) (fun h => ?_)))
  · refine .seq (rg (g0 (jb false) fun h4 => ?_))
    refine gq (.nsq (.ret ?_))
    have hr := Option.some.inj h
    subst hr
    exact rrA (res_tmp h4) rfl
  refine .skip (.nsq (.seq (.seq (rg (gv (oI 9 [] r_8) (ev_mov h9 ok_encO) fun h57 => ?_)))))
  refine gm h1 fun h58 => ?_
  obtain ⟨r_14, E_r_14, h⟩ := bind_some h
  refine g_call (m := 0) (al := false) (r := (Enc.enc (r_14 : (List Int)))) [Enc.enc (x_2 : (List Int))] (ta_cons (v := (eL x_2)) h58 rfl (Enc.erase_enc (x_2 : (List Int))) ta_nil) (H.c18 _ _ E_r_14) H.g18 rfl rfl rfl rfl ?_
  obtain ⟨r_15, E_r_15, h⟩ := bind_some h
  refine g_call (m := 0) (al := false) (r := (Enc.enc (r_15 : Bool))) [Enc.enc (r_8.list : (List Int)), Enc.enc (r_14 : (List Int))] (ta_cons (v := (oI 9 [] r_8)) h57 ok_encP (erase_encO (o := r_8)) (ta_cons (v := (eL r_14)) rfl rfl (Enc.erase_enc (r_14 : (List Int))) ta_nil)) (H.c21 _ _ _ E_r_15) H.g21 rfl rfl rfl rfl ?_
  refine g1 60 (jb (!r_15)) (rfl : (_ : V) = (jb r_15)) fun h61 => ?_
  refine gq (.nsq (run_cond (t := (!r_15)) h61 h (fun h => ?_) (fun h => ?_)))
  · refine .seq (rg (g0 (jb false) fun h4 => ?_))
    refine gq (.nsq (.ret ?_))
    have hr := Option.some.inj h
    subst hr
    exact rrA (res_tmp h4) rfl
  refine .skip (.nsq (.seq (rg (g0 (ji 1) fun h12 => gq (.nsq (.seq (rg (gv (.agg [(ji r_7.1), (encO (.at 34 [1]) (r_7.2 : NL (Int × Int)))]) (ev_loadN (c := (.agg [(ji r_7.1), (encO (.at 34 [1]) (r_7.2 : NL (Int × Int)))])) h8 (by simp [V.shape, V.shapes, shape_encP, shape_encN, Sh.beq, Sh.beqs])) fun h62 => ?_))))))))
  refine gm h12 fun h63 => ?_
  obtain ⟨r_16, E_r_16, h⟩ := bind_some h
  refine g_mark (v := (.agg [(ji r_7.1), (encO (.at 34 [1]) (r_7.2 : NL (Int × Int)))])) h62 (canon_agg (a := r_7.1) (o := (r_7.2 : NL (Int × Int))) rfl) (rdAll_cons (v := (ji 1)) h63 rfl rdAll_nil) (H.c22 _ _ _ E_r_16) H.g22 rfl rfl (fun s_7 hm_7 => ?_)
  refine gm (rfl : (_ : V) = (ji r_16.1)) fun h12 => ?_
  refine gz [(1, _), (2, (.ref (.bx 2) 0 [] (.agg [(ji x_1.1), (Enc.enc (x_1.2 : List (Int × Int)))]))), (4, (jb false)), (6, (.ref (.bx 6) 0 [] (.agg [(Enc.enc (r_6.1.1 : List (List Int))), (Enc.enc (r_6.1.2 : List (Int × Int)))]))), (7, (jb r_6.2)), (9, (oI 9 [] r_8)), (10, (.ref (.bx 10) 0 [] (.agg [(encN 40 [0, 0] (r_9.1.1 : NL (NL Int))), (encO (.at 40 [0, 1]) (r_9.1.2 : NL (Int × Int)))]))), (11, (jb r_9.2)), (12, _)] ⟨(show s_7 1 = (eL x_2) from hm_7 1 (eL x_2) (eL x_2) h1 (rem_enc (xs := (x_2 : List Int)))), (show s_7 2 = (.ref (.bx 2) 0 [] (.agg [(ji x_1.1), (Enc.enc (x_1.2 : List (Int × Int)))])) from hm_7 2 (.ref (.bx 2) 0 [] (.agg [(ji x_1.1), (Enc.enc (x_1.2 : List (Int × Int)))])) (.ref (.bx 2) 0 [] (.agg [(ji x_1.1), (Enc.enc (x_1.2 : List (Int × Int)))])) h2 (rem_self _ (map_bx (killO_ne rfl) (map_agg (maps_cons rfl (maps_cons (Enc.map_enc _ (x_1.2 : List (Int × Int))) maps_nil)))))), (show s_7 4 = (jb false) from hm_7 4 (jb false) (jb false) h4 (rem_self _ rfl)), (show s_7 6 = (.ref (.bx 6) 0 [] (.agg [(Enc.enc (r_6.1.1 : List (List Int))), (Enc.enc (r_6.1.2 : List (Int × Int)))])) from hm_7 6 (.ref (.bx 6) 0 [] (.agg [(Enc.enc (r_6.1.1 : List (List Int))), (Enc.enc (r_6.1.2 : List (Int × Int)))])) (.ref (.bx 6) 0 [] (.agg [(Enc.enc (r_6.1.1 : List (List Int))), (Enc.enc (r_6.1.2 : List (Int × Int)))])) h6 (rem_self _ (map_bx (killO_ne rfl) (map_agg (maps_cons (Enc.map_enc _ (r_6.1.1 : List (List Int))) (maps_cons (Enc.map_enc _ (r_6.1.2 : List (Int × Int))) maps_nil)))))), (show s_7 7 = (jb r_6.2) from hm_7 7 (jb r_6.2) (jb r_6.2) h7 (rem_self _ rfl)), (show s_7 9 = (oI 9 [] r_8) from hm_7 9 (oI 9 [] r_8) (oI 9 [] r_8) h9 (rem_self _ (map_encO (r := 9) (p := []) (killO_ne rfl) (killO_ne rfl)))), (show s_7 10 = (.ref (.bx 10) 0 [] (.agg [(encN 40 [0, 0] (r_9.1.1 : NL (NL Int))), (encO (.at 40 [0, 1]) (r_9.1.2 : NL (Int × Int)))])) from hm_7 10 (.ref (.bx 10) 0 [] (.agg [(encN 40 [0, 0] (r_9.1.1 : NL (NL Int))), (encO (.at 40 [0, 1]) (r_9.1.2 : NL (Int × Int)))])) (.ref (.bx 10) 0 [] (.agg [(encN 40 [0, 0] (r_9.1.1 : NL (NL Int))), (encO (.at 40 [0, 1]) (r_9.1.2 : NL (Int × Int)))])) h10 (rem_self _ (map_bx (killO_ne rfl) (map_agg (maps_cons (map_encN (r := 40) (p := [0, 0]) (killO_ne rfl) (fun _ => killO_ne rfl) (killO_ne rfl)) (maps_cons (map_encO (r := 40) (p := [0, 1]) (killO_ne rfl) (killO_ne rfl)) maps_nil)))))), (show s_7 11 = (jb r_9.2) from hm_7 11 (jb r_9.2) (jb r_9.2) h11 (rem_self _ rfl)), h12⟩ ?_
  rintro s ⟨h1, h2, h4, h6, h7, h9, h10, h11, h12⟩
  refine .nsq (.seq (rg (gv (oI 9 [] r_8) (ev_mov h9 ok_encO) fun h65 => ?_)))
  refine gm h12 fun h66 => ?_
  obtain ⟨r_17, E_r_17, h⟩ := bind_some h
  refine g_mark (v := (oI 9 [] r_8)) h65 (canon_own (o := (r_8 : (NL Int))) rfl) (rdAll_cons (v := (ji r_16.1)) h66 rfl rdAll_nil) (H.c23 _ _ _ E_r_17) H.g23 rfl rfl (fun s_8 hm_8 => ?_)
  refine gm (rfl : (_ : V) = (ji r_17.1)) fun h12 => ?_
  refine gz [(1, _), (2, (.ref (.bx 2) 0 [] (.agg [(ji x_1.1), (Enc.enc (x_1.2 : List (Int × Int)))]))), (4, (jb false)), (6, (.ref (.bx 6) 0 [] (.agg [(Enc.enc (r_6.1.1 : List (List Int))), (Enc.enc (r_6.1.2 : List (Int × Int)))]))), (7, (jb r_6.2)), (10, (.ref (.bx 10) 0 [] (.agg [(encN 40 [0, 0] (r_9.1.1 : NL (NL Int))), (encO (.at 40 [0, 1]) (r_9.1.2 : NL (Int × Int)))]))), (11, (jb r_9.2)), (12, _)] ⟨(show s_8 1 = (eL x_2) from hm_8 1 (eL x_2) (eL x_2) h1 (rem_enc (xs := (x_2 : List Int)))), (show s_8 2 = (.ref (.bx 2) 0 [] (.agg [(ji x_1.1), (Enc.enc (x_1.2 : List (Int × Int)))])) from hm_8 2 (.ref (.bx 2) 0 [] (.agg [(ji x_1.1), (Enc.enc (x_1.2 : List (Int × Int)))])) (.ref (.bx 2) 0 [] (.agg [(ji x_1.1), (Enc.enc (x_1.2 : List (Int × Int)))])) h2 (rem_self _ (map_bx (killO_ne rfl) (map_agg (maps_cons rfl (maps_cons (Enc.map_enc _ (x_1.2 : List (Int × Int))) maps_nil)))))), (show s_8 4 = (jb false) from hm_8 4 (jb false) (jb false) h4 (rem_self _ rfl)), (show s_8 6 = (.ref (.bx 6) 0 [] (.agg [(Enc.enc (r_6.1.1 : List (List Int))), (Enc.enc (r_6.1.2 : List (Int × Int)))])) from hm_8 6 (.ref (.bx 6) 0 [] (.agg [(Enc.enc (r_6.1.1 : List (List Int))), (Enc.enc (r_6.1.2 : List (Int × Int)))])) (.ref (.bx 6) 0 [] (.agg [(Enc.enc (r_6.1.1 : List (List Int))), (Enc.enc (r_6.1.2 : List (Int × Int)))])) h6 (rem_self _ (map_bx (killO_ne rfl) (map_agg (maps_cons (Enc.map_enc _ (r_6.1.1 : List (List Int))) (maps_cons (Enc.map_enc _ (r_6.1.2 : List (Int × Int))) maps_nil)))))), (show s_8 7 = (jb r_6.2) from hm_8 7 (jb r_6.2) (jb r_6.2) h7 (rem_self _ rfl)), (show s_8 10 = (.ref (.bx 10) 0 [] (.agg [(encN 40 [0, 0] (r_9.1.1 : NL (NL Int))), (encO (.at 40 [0, 1]) (r_9.1.2 : NL (Int × Int)))])) from hm_8 10 (.ref (.bx 10) 0 [] (.agg [(encN 40 [0, 0] (r_9.1.1 : NL (NL Int))), (encO (.at 40 [0, 1]) (r_9.1.2 : NL (Int × Int)))])) (.ref (.bx 10) 0 [] (.agg [(encN 40 [0, 0] (r_9.1.1 : NL (NL Int))), (encO (.at 40 [0, 1]) (r_9.1.2 : NL (Int × Int)))])) h10 (rem_self _ (map_bx (killO_ne rfl) (map_agg (maps_cons (map_encN (r := 40) (p := [0, 0]) (killO_ne rfl) (fun _ => killO_ne rfl) (killO_ne rfl)) (maps_cons (map_encO (r := 40) (p := [0, 1]) (killO_ne rfl) (killO_ne rfl)) maps_nil)))))), (show s_8 11 = (jb r_9.2) from hm_8 11 (jb r_9.2) (jb r_9.2) h11 (rem_self _ rfl)), h12⟩ ?_
  rintro s ⟨h1, h2, h4, h6, h7, h10, h11, h12⟩
  refine .nsq (.seq (.seq (rg (gm h12 fun h68 => g1 68 (jb (decide (r_17.1 < 0))) h68 fun h69 => ?_))))
  refine gm h69 fun h70 => split_on (c := decide (r_17.1 < 0)) h (fun hg3 h => ?_) (fun hg3 h => ?_)
  · refine g_no (h70.trans (congrArg V.bool hg3)) ?_
    refine g_no (h70.trans (congrArg V.bool hg3)) ?_
    refine g_no (h70.trans (congrArg V.bool hg3)) ?_
    refine g_no (h70.trans (congrArg V.bool hg3)) ?_
    refine g2 70 74 (jb true) (h70.trans (congrArg V.bool hg3)) (rfl : (_ : V) = (.tup [])) fun h75 => ?_
    refine gm h75 fun h76 => g_no h76 ?_
    refine g_no h76 ?_
    refine g_no h76 ?_
    refine g2 76 79 (jb true) h76 (rfl : (_ : V) = (.tup [])) fun h80 => ?_
    refine gq ?_
    exact t_f10_j2 H x_2 x_1 r_6 r_9 true _ ⟨h1, h2, h4, h6, h7, h10, h80⟩ h
  refine g_yes (h70.trans (congrArg V.bool hg3)) (gv (.agg [(encN 40 [0, 0] (r_9.1.1 : NL (NL Int))), (encO (.at 40 [0, 1]) (r_9.1.2 : NL (Int × Int)))]) (ev_loadN (c := (.agg [(encN 40 [0, 0] (r_9.1.1 : NL (NL Int))), (encO (.at 40 [0, 1]) (r_9.1.2 : NL (Int × Int)))])) h10 (by simp [V.shape, V.shapes, shape_encP, shape_encN, Sh.beq, Sh.beqs])) fun h71 => ?_)
  refine g_yes (h70.trans (congrArg V.bool hg3)) (g1 6 (.agg [(Enc.enc (r_6.1.1 : List (List Int))), (Enc.enc (r_6.1.2 : List (Int × Int)))]) h6 fun h72 => ?_)
  obtain ⟨r_30, E_r_30, h⟩ := bind_some h
  refine g_yes (h70.trans (congrArg V.bool hg3)) (g_call (m := 0) (al := false) (r := (Enc.enc (r_30 : Bool))) [Enc.enc (((List.map NL.list r_9.1.1.list), r_9.1.2.list) : ((List (List Int)) × (List (Int × Int)))), Enc.enc (r_6.1 : ((List (List Int)) × (List (Int × Int))))] (ta_cons (v := (.agg [(encN 40 [0, 0] (r_9.1.1 : NL (NL Int))), (encO (.at 40 [0, 1]) (r_9.1.2 : NL (Int × Int)))])) h71 rfl (erase_agg (erases_cons (erase_encN (o := (r_9.1.1 : NL (NL Int)))) (erases_cons (erase_encO (o := r_9.1.2)) erases_nil))) (ta_cons (v := (.agg [(Enc.enc (r_6.1.1 : List (List Int))), (Enc.enc (r_6.1.2 : List (Int × Int)))])) h72 rfl (Enc.erase_enc (r_6.1 : ((List (List Int)) × (List (Int × Int))))) ta_nil)) (H.c45 _ _ _ E_r_30) H.g45 rfl rfl rfl rfl ?_)
  refine g_yes (h70.trans (congrArg V.bool hg3)) (g1 73 (jb (!r_30)) (rfl : (_ : V) = (jb r_30)) fun h74 => ?_)
  refine g2 70 74 (jb (!r_30)) (h70.trans (congrArg V.bool hg3)) h74 fun h75 => ?_
  refine gm h75 fun h76 => split_on (c := (!r_30)) h (fun hg9 h => ?_) (fun hg9 h => ?_)
  · refine g_no (h76.trans (congrArg V.bool hg9)) ?_
    refine g_no (h76.trans (congrArg V.bool hg9)) ?_
    refine g_no (h76.trans (congrArg V.bool hg9)) ?_
    refine g2 76 79 (jb true) (h76.trans (congrArg V.bool hg9)) (rfl : (_ : V) = (.tup [])) fun h80 => ?_
    refine gq ?_
    exact t_f10_j2 H x_2 x_1 r_6 r_9 true _ ⟨h1, h2, h4, h6, h7, h10, h80⟩ h
  refine g_yes (h76.trans (congrArg V.bool hg9)) (gm h11 fun h77 => ?_)
  refine g_yes (h76.trans (congrArg V.bool hg9)) (gm h7 fun h78 => ?_)
  refine g_yes (h76.trans (congrArg V.bool hg9)) (g2 77 78 (jb (r_9.2 != r_6.2)) h77 h78 fun h79 => ?_)
  refine g2 76 79 (jb (r_9.2 != r_6.2)) (h76.trans (congrArg V.bool hg9)) h79 fun h80 => ?_
  refine gq ?_
  exact t_f10_j2 H x_2 x_1 r_6 r_9 (r_9.2 != r_6.2) _ ⟨h1, h2, h4, h6, h7, h10, h80⟩ h
def w_FnExactDecompositionOf (F : Nat) (x_1 : (Int × (List (Int × Int)))) (x_2 : (List Int)) : Option Bool :=
  bif decide ((x_2.length : Int) > 1048576) then
    some true
  else
    (w_szGraph F x_1 1048576).bind fun r_3 =>
    bif decide (r_3 < 0) then
      some true
    else
      (w_toGraph F x_1).bind fun r_4 =>
      (w_toIntS F x_2).bind fun r_5 =>
      (s_DecompositionOf F r_4 r_5).bind fun r_6 =>
      (w_toGraph_o F x_1).bind fun r_7 =>
      (w_toIntS_o F x_2).bind fun r_8 =>
      (i_DecompositionOf_o F (r_7.1, r_7.2.list) r_8.list).bind fun r_9 =>
      (w_eqDecomposition F ((List.map NL.list r_9.1.1.list), r_9.1.2.list) r_6.1).bind fun r_31 =>
      bif (!r_31) then
        w_FnExactDecompositionOf_j3 F x_2 x_1 r_6 r_7 r_8 r_9 true
      else
        w_FnExactDecompositionOf_j3 F x_2 x_1 r_6 r_7 r_8 r_9 (r_9.2 != r_6.2)
theorem t10 (H : H10 D σ F) (x_1 : (Int × (List (Int × Int)))) (x_2 : (List Int)) (s : Nat → V) (hs : Facts [(0, (.agg [(ji x_1.1), (Enc.enc (x_1.2 : List (Int × Int)))])), (1, (eL x_2))] s) (h : w_FnExactDecompositionOf F x_1 x_2 = some r) : Run D σ (R10 r) (.run A10 []) s := by
  unfold w_FnExactDecompositionOf at h
  obtain ⟨h0, h1⟩ := hs
  refine .seq (run_reg ?_)
  refine e_clr ?_
  refine ez [(0, _), (1, _), (2, _)] ⟨(keep_clear (pk := [2]) h0 rfl (map_agg (maps_cons mi (maps_cons me maps_nil)))), (keep_clear (pk := [2]) h1 rfl me), (gone_clear (pk := [2]) (t := 2) rfl)⟩ ?_
  rintro s ⟨h0, h1, h2⟩
  refine g_box (.agg [(ji x_1.1), (Enc.enc (x_1.2 : List (Int × Int)))]) (rd_of h0 rfl) h2 rfl ?_
  refine g0 (jb false) fun h4 => ?_
  refine gq (.nsq (.seq (.seq (rg (gm h1 fun h17 => gv (ji (x_2.length : Int)) (ev_len (xs := x_2) h17) fun h18 => ?_)))))
  refine g1 18 (jb (decide ((x_2.length : Int) > 1048576))) h18 fun h19 => ?_
  refine gq (.nsq (run_cond (t := decide ((x_2.length : Int) > 1048576)) h19 h (fun h => ?_) (fun h => ?_)))
  · refine .seq (rg (g0 (jb true) fun h4 => ?_))
    refine gq (.nsq (.ret ?_))
    have hr := Option.some.inj h
    subst hr
    exact rrA (res_tmp h4) rfl
  refine .skip (.nsq (.seq (rg (g0 (ji 1048576) fun h5 => gq (.nsq (.seq (rg (g1 2 (.agg [(ji x_1.1), (Enc.enc (x_1.2 : List (Int × Int)))]) (rfl : (_ : V) = (.ref (.bx 2) 0 [] (.agg [(ji x_1.1), (Enc.enc (x_1.2 : List (Int × Int)))]))) fun h20 => ?_))))))))
  refine gm h5 fun h21 => ?_
  obtain ⟨r_3, E_r_3, h⟩ := bind_some h
  refine g_call (m := 0) (al := false) (r := (Enc.enc (r_3 : Int))) [Enc.enc (x_1 : (Int × (List (Int × Int)))), Enc.enc (1048576 : Int)] (ta_cons (v := (.agg [(ji x_1.1), (Enc.enc (x_1.2 : List (Int × Int)))])) h20 rfl (Enc.erase_enc (x_1 : (Int × (List (Int × Int))))) (ta_cons (v := (ji 1048576)) h21 rfl rfl ta_nil)) (H.c15 _ _ _ E_r_3) H.g15 rfl rfl rfl rfl ?_
  refine gm (rfl : (_ : V) = (ji r_3)) fun h5 => ?_
  refine gq (.nsq (.seq (.seq (rg (gm h5 fun h23 => g1 23 (jb (decide (r_3 < 0))) h23 fun h24 => ?_)))))
  refine gq (.nsq (run_cond (t := decide (r_3 < 0)) h24 h (fun h => ?_) (fun h => ?_)))
  · refine .seq (rg (g0 (jb true) fun h4 => ?_))
    refine gq (.nsq (.ret ?_))
    have hr := Option.some.inj h
    subst hr
    exact rrA (res_tmp h4) rfl
  refine .skip (.nsq (.seq (run_reg ?_)))
  refine e_clr ?_
  refine ez [(1, _), (2, _), (4, _), (6, _)] ⟨(keep_clear (pk := [6]) h1 rfl me), (keep_clear (pk := [6]) rfl rfl (map_bx rfl (map_agg (maps_cons mi (maps_cons me maps_nil))))), (keep_clear (pk := [6]) h4 rfl mb), (gone_clear (pk := [6]) (t := 6) rfl)⟩ ?_
  rintro s ⟨h1, h2, h4, h6⟩
  refine g1 2 (.agg [(ji x_1.1), (Enc.enc (x_1.2 : List (Int × Int)))]) h2 fun h26 => ?_
  obtain ⟨r_4, E_r_4, h⟩ := bind_some h
  refine g_call (m := 0) (al := true) (r := (Enc.enc (r_4 : (Int × (List (Int × Int)))))) [Enc.enc (x_1 : (Int × (List (Int × Int))))] (ta_cons (v := (.agg [(ji x_1.1), (Enc.enc (x_1.2 : List (Int × Int)))])) h26 rfl (Enc.erase_enc (x_1 : (Int × (List (Int × Int))))) ta_nil) (H.c17 _ _ E_r_4) H.g17 (hal_of (ht_cons (v := (.agg [(ji x_1.1), (Enc.enc (x_1.2 : List (Int × Int)))])) h26 rfl rfl ht_nil)) rfl rfl rfl ?_
  refine gm h1 fun h28 => ?_
  obtain ⟨r_5, E_r_5, h⟩ := bind_some h
  refine g_call (m := 0) (al := false) (r := (Enc.enc (r_5 : (List Int)))) [Enc.enc (x_2 : (List Int))] (ta_cons (v := (eL x_2)) h28 rfl (Enc.erase_enc (x_2 : (List Int))) ta_nil) (H.c18 _ _ E_r_5) H.g18 rfl rfl rfl rfl ?_
  obtain ⟨r_6, E_r_6, h⟩ := bind_some h
  refine g_call (m := 0) (al := true) (r := (.tup [Enc.enc (r_6.1 : ((List (List Int)) × (List (Int × Int)))), Enc.enc (r_6.2 : Bool)])) [Enc.enc (r_4 : (Int × (List (Int × Int)))), Enc.enc (r_5 : (List Int))] (ta_cons (v := (.agg [(ji r_4.1), (Enc.enc (r_4.2 : List (Int × Int)))])) rfl rfl (Enc.erase_enc (r_4 : (Int × (List (Int × Int))))) (ta_cons (v := (eL r_5)) rfl rfl (Enc.erase_enc (r_5 : (List Int))) ta_nil)) (H.c43 _ _ _ E_r_6) H.g43 (hal_of (ht_cons (v := (.agg [(ji r_4.1), (Enc.enc (r_4.2 : List (Int × Int)))])) rfl rfl rfl (ht_cons (v := (eL r_5)) rfl rfl rfl ht_nil))) rfl rfl rfl ?_
  refine gm (rfl : (_ : V) = (.tup [(.agg [(Enc.enc (r_6.1.1 : List (List Int))), (Enc.enc (r_6.1.2 : List (Int × Int)))]), (jb r_6.2)])) fun h25 => ?_
  refine g1 25 (.agg [(Enc.enc (r_6.1.1 : List (List Int))), (Enc.enc (r_6.1.2 : List (Int × Int)))]) h25 fun h31 => ?_
  refine g1 25 (jb r_6.2) h25 fun h32 => ?_
  refine g_alloc h6 ?_
  refine g_store (.agg [(Enc.enc (r_6.1.1 : List (List Int))), (Enc.enc (r_6.1.2 : List (Int × Int)))]) (rd_of rfl rfl) (rd_of h31 rfl) (by refine ⟨by decide, by decide, rfl, rfl, rfl, ?_⟩; first | rfl | (simp [V.toks, V.tokss, Enc.toks_enc]; done) | simp [V.toks, V.tokss, Enc.toks_enc, tok_memP]) ?_
  refine gm (keep_mut h32 rfl) fun h7 => ?_
  refine gz [(1, (eL x_2)), (2, (.ref (.bx 2) 0 [] (.agg [(ji x_1.1), (Enc.enc (x_1.2 : List (Int × Int)))]))), (4, (jb false)), (6, (.ref (.bx 6) 0 [] (.agg [(Enc.enc (r_6.1.1 : List (List Int))), (Enc.enc (r_6.1.2 : List (Int × Int)))]))), (7, _)] ⟨(keep_mut h1 (Enc.mut_enc _ _ _ _ (x_2 : List Int))), (keep_mut h2 (mut_ref_ne rfl rfl (mut_agg (muts_cons rfl (muts_cons (Enc.mut_enc _ _ _ _ (x_1.2 : List (Int × Int))) rfl))))), (keep_mut h4 rfl), (keep_mut rfl rfl), h7⟩ ?_
  rintro s ⟨h1, h2, h4, h6, h7⟩
  refine .nsq (.seq (run_reg ?_))
  refine e_clr ?_
  refine ez [(1, _), (2, _), (4, _), (6, _), (7, _), (8, _), (34, _)] ⟨(keep_clear (pk := [34, 8]) h1 rfl me), (keep_clear (pk := [34, 8]) h2 rfl (map_bx rfl (map_agg (maps_cons mi (maps_cons me maps_nil))))), (keep_clear (pk := [34, 8]) h4 rfl mb), (keep_clear (pk := [34, 8]) h6 rfl (map_bx rfl (map_agg (maps_cons me (maps_cons me maps_nil))))), (keep_clear (pk := [34, 8]) h7 rfl mb), (gone_clear (pk := [34, 8]) (t := 8) rfl), (gone_clear (pk := [34, 8]) (t := 34) rfl)⟩ ?_
  rintro s ⟨h1, h2, h4, h6, h7, h8, h34⟩
  refine g1 2 (.agg [(ji x_1.1), (Enc.enc (x_1.2 : List (Int × Int)))]) h2 fun h33 => ?_
  obtain ⟨r_7, E_r_7, h⟩ := bind_some h
  refine g_callO (m := 1) (al := false) (r := (.agg [(Enc.enc (r_7.1 : Int)), (encO .sh (r_7.2 : NL (Int × Int)))])) (v := (.agg [(ji r_7.1), (encO (.at 34 [1]) (r_7.2 : NL (Int × Int)))])) (kk := 1000000017) [Enc.enc (x_1 : (Int × (List (Int × Int))))] (ta_cons (v := (.agg [(ji x_1.1), (Enc.enc (x_1.2 : List (Int × Int)))])) h33 rfl (Enc.erase_enc (x_1 : (Int × (List (Int × Int))))) ta_nil) (H.c17o _ _ E_r_7) H.g17o rfl (toks_agg (tokss_cons rfl (tokss_cons toks_encS tokss_nil))) (tag_agg (tags_cons rfl (tags_cons tag_encO tags_nil))) rfl h34 ?_
  refine g_alloc h8 ?_
  refine g_store (.agg [(ji r_7.1), (encO (.at 34 [1]) (r_7.2 : NL (Int × Int)))]) (rd_of rfl rfl) (rd_of rfl rfl) ⟨by decide, by decide, rfl, (by simp [V.shape, V.shapes, shape_encP, Sh.beq, Sh.beqs]), (by simp [V.shape, V.shapes, shape_encP, Sh.beq, Sh.beqs]), (by simp [V.toks, V.tokss, tok_memP])⟩ ?_
  refine gz [(1, (eL x_2)), (2, (.ref (.bx 2) 0 [] (.agg [(ji x_1.1), (Enc.enc (x_1.2 : List (Int × Int)))]))), (4, (jb false)), (6, (.ref (.bx 6) 0 [] (.agg [(Enc.enc (r_6.1.1 : List (List Int))), (Enc.enc (r_6.1.2 : List (Int × Int)))]))), (7, (jb r_6.2)), (8, (.ref (.bx 8) 0 [] (.agg [(ji r_7.1), (encO (.at 34 [1]) (r_7.2 : NL (Int × Int)))])))] ⟨(keep_mut h1 (Enc.mut_enc _ _ _ _ (x_2 : List Int))), (keep_mut h2 (mut_ref_ne rfl rfl (mut_agg (muts_cons rfl (muts_cons (Enc.mut_enc _ _ _ _ (x_1.2 : List (Int × Int))) rfl))))), (keep_mut h4 rfl), (keep_mut h6 (mut_ref_ne rfl rfl (mut_agg (muts_cons (Enc.mut_enc _ _ _ _ (r_6.1.1 : List (List Int))) (muts_cons (Enc.mut_enc _ _ _ _ (r_6.1.2 : List (Int × Int))) rfl))))), (keep_mut h7 rfl), (keep_mut rfl rfl)⟩ ?_
  rintro s ⟨h1, h2, h4, h6, h7, h8⟩
  refine .nsq (.seq (run_reg ?_))
  refine e_clr ?_
  refine ez [(1, _), (2, _), (4, _), (6, _), (7, _), (8, _), (36, _)] ⟨(keep_clear (pk := [36]) h1 rfl me), (keep_clear (pk := [36]) h2 rfl (map_bx rfl (map_agg (maps_cons mi (maps_cons me maps_nil))))), (keep_clear (pk := [36]) h4 rfl mb), (keep_clear (pk := [36]) h6 rfl (map_bx rfl (map_agg (maps_cons me (maps_cons me maps_nil))))), (keep_clear (pk := [36]) h7 rfl mb), (keep_clear (pk := [36]) h8 rfl (map_bx rfl (map_agg (maps_cons mi (maps_cons (map_encO (r := 34) (p := [1]) rfl rfl) maps_nil))))), (gone_clear (pk := [36]) (t := 36) rfl)⟩ ?_
  rintro s ⟨h1, h2, h4, h6, h7, h8, h36⟩
  refine gm h1 fun h35 => ?_
  obtain ⟨r_8, E_r_8, h⟩ := bind_some h
  refine g_callO (m := 1) (al := false) (r := (encO .sh (r_8 : NL Int))) (v := (oI 36 [] r_8)) (kk := 1000000018) [Enc.enc (x_2 : (List Int))] (ta_cons (v := (eL x_2)) h35 rfl (Enc.erase_enc (x_2 : (List Int))) ta_nil) (H.c18o _ _ E_r_8) H.g18o rfl toks_encS tag_encO ok_encP h36 ?_
  refine gv (oI 36 [] r_8) (ev_mov rfl ok_encO) fun h9 => ?_
  refine g_end ?_
  refine e_home (r := 36) (x := 9) (v := _) h9 ok_encO (fun s_5 hg_5 => ?_)
  refine ez [(1, (eL x_2)), (2, (.ref (.bx 2) 0 [] (.agg [(ji x_1.1), (Enc.enc (x_1.2 : List (Int × Int)))]))), (4, (jb false)), (6, (.ref (.bx 6) 0 [] (.agg [(Enc.enc (r_6.1.1 : List (List Int))), (Enc.enc (r_6.1.2 : List (Int × Int)))]))), (7, (jb r_6.2)), (8, (.ref (.bx 8) 0 [] (.agg [(ji r_7.1), (encO (.at 34 [1]) (r_7.2 : NL (Int × Int)))]))), (9, (oI 9 [] r_8))] ⟨(hg_5 1 _ _ h1 me), (hg_5 2 _ _ h2 (map_bx rfl (map_agg (maps_cons mi (maps_cons me maps_nil))))), (hg_5 4 _ _ h4 mb), (hg_5 6 _ _ h6 (map_bx rfl (map_agg (maps_cons me (maps_cons me maps_nil))))), (hg_5 7 _ _ h7 mb), (hg_5 8 _ (.ref (.bx 8) 0 [] (.agg [(ji r_7.1), (encO (.at 34 [1]) (r_7.2 : NL (Int × Int)))])) h8 (map_bx rfl (map_agg (maps_cons mi (maps_cons (map_encO (r := 34) (p := [1]) rfl rfl) maps_nil))))), (hg_5 9 _ _ h9 (map_encO (r := 36) (p := []) rfl rfl))⟩ ?_
  rintro s ⟨h1, h2, h4, h6, h7, h8, h9⟩
  refine .nsq (.seq (run_reg ?_))
  refine e_clr ?_
  refine ez [(1, _), (2, _), (4, _), (6, _), (7, _), (8, _), (9, _), (10, _), (40, _)] ⟨(keep_clear (pk := [40, 10]) h1 rfl me), (keep_clear (pk := [40, 10]) h2 rfl (map_bx rfl (map_agg (maps_cons mi (maps_cons me maps_nil))))), (keep_clear (pk := [40, 10]) h4 rfl mb), (keep_clear (pk := [40, 10]) h6 rfl (map_bx rfl (map_agg (maps_cons me (maps_cons me maps_nil))))), (keep_clear (pk := [40, 10]) h7 rfl mb), (keep_clear (pk := [40, 10]) h8 rfl (map_bx rfl (map_agg (maps_cons mi (maps_cons (map_encO (r := 34) (p := [1]) rfl rfl) maps_nil))))), (keep_clear (pk := [40, 10]) h9 rfl (map_encO (r := 9) (p := []) rfl rfl)), (gone_clear (pk := [40, 10]) (t := 10) rfl), (gone_clear (pk := [40, 10]) (t := 40) rfl)⟩ ?_
  rintro s ⟨h1, h2, h4, h6, h7, h8, h9, h10, h40⟩
  refine gv (.agg [(ji r_7.1), (encO (.at 34 [1]) (r_7.2 : NL (Int × Int)))]) (ev_loadN (c := (.agg [(ji r_7.1), (encO (.at 34 [1]) (r_7.2 : NL (Int × Int)))])) h8 (by simp [V.shape, V.shapes, shape_encP, shape_encN, Sh.beq, Sh.beqs])) fun h38 => ?_
  refine gv (oI 9 [] r_8) (ev_mov h9 ok_encO) fun h39 => ?_
  obtain ⟨r_9, E_r_9, h⟩ := bind_some h
  refine g_callO (m := 2) (al := false) (r := (.tup [(.agg [(encNs (r_9.1.1 : NL (NL Int))), (encO .sh (r_9.1.2 : NL (Int × Int)))]), (Enc.enc (r_9.2 : Bool))])) (v := (.tup [(.agg [(encN 40 [0, 0] (r_9.1.1 : NL (NL Int))), (encO (.at 40 [0, 1]) (r_9.1.2 : NL (Int × Int)))]), (jb r_9.2)])) (kk := 1000000044) [Enc.enc ((r_7.1, r_7.2.list) : (Int × (List (Int × Int)))), Enc.enc (r_8.list : (List Int))] (ta_cons (v := (.agg [(ji r_7.1), (encO (.at 34 [1]) (r_7.2 : NL (Int × Int)))])) h38 rfl (erase_agg (erases_cons rfl (erases_cons (erase_encO (o := r_7.2)) erases_nil))) (ta_cons (v := (oI 9 [] r_8)) h39 ok_encP (erase_encO (o := r_8)) ta_nil)) (H.c44o _ _ _ E_r_9) H.g44o rfl (toks_tup (tokss_cons (toks_agg (tokss_cons toks_encNs (tokss_cons toks_encS tokss_nil))) (tokss_cons rfl tokss_nil))) (tag_tup (tags_cons (tag_agg (tags_cons (tag_encN rfl) (tags_cons (tag2_encO rfl) tags_nil))) (tags_cons rfl tags_nil))) rfl h40 ?_
  refine gm (rfl : (_ : V) = (.tup [(.agg [(encN 40 [0, 0] (r_9.1.1 : NL (NL Int))), (encO (.at 40 [0, 1]) (r_9.1.2 : NL (Int × Int)))]), (jb r_9.2)])) fun h37 => ?_
  refine gv (.agg [(encN 40 [0, 0] (r_9.1.1 : NL (NL Int))), (encO (.at 40 [0, 1]) (r_9.1.2 : NL (Int × Int)))]) (ev_extN (v := (.agg [(encN 40 [0, 0] (r_9.1.1 : NL (NL Int))), (encO (.at 40 [0, 1]) (r_9.1.2 : NL (Int × Int)))])) h37 rfl rfl) fun h41 => ?_
  refine g1 37 (jb r_9.2) h37 fun h42 => ?_
  refine g_alloc h10 ?_
  refine g_store (.agg [(encN 40 [0, 0] (r_9.1.1 : NL (NL Int))), (encO (.at 40 [0, 1]) (r_9.1.2 : NL (Int × Int)))]) (rd_of rfl rfl) (rd_of h41 rfl) ⟨by decide, by decide, rfl, (by simp [V.shape, V.shapes, shape_encP, shape_encN, Sh.beq, Sh.beqs]), (by simp [V.shape, V.shapes, shape_encP, shape_encN, Sh.beq, Sh.beqs]), (by simp [V.toks, V.tokss, tok_memP, tok_memN])⟩ ?_
  refine gm (keep_mut h42 rfl) fun h11 => ?_
  refine gz [(1, (eL x_2)), (2, (.ref (.bx 2) 0 [] (.agg [(ji x_1.1), (Enc.enc (x_1.2 : List (Int × Int)))]))), (4, (jb false)), (6, (.ref (.bx 6) 0 [] (.agg [(Enc.enc (r_6.1.1 : List (List Int))), (Enc.enc (r_6.1.2 : List (Int × Int)))]))), (7, (jb r_6.2)), (8, (.ref (.bx 8) 0 [] (.agg [(ji r_7.1), (encO (.at 34 [1]) (r_7.2 : NL (Int × Int)))]))), (9, (oI 9 [] r_8)), (10, (.ref (.bx 10) 0 [] (.agg [(encN 40 [0, 0] (r_9.1.1 : NL (NL Int))), (encO (.at 40 [0, 1]) (r_9.1.2 : NL (Int × Int)))]))), (11, _)] ⟨(keep_mut h1 (Enc.mut_enc _ _ _ _ (x_2 : List Int))), (keep_mut h2 (mut_ref_ne rfl rfl (mut_agg (muts_cons rfl (muts_cons (Enc.mut_enc _ _ _ _ (x_1.2 : List (Int × Int))) rfl))))), (keep_mut h4 rfl), (keep_mut h6 (mut_ref_ne rfl rfl (mut_agg (muts_cons (Enc.mut_enc _ _ _ _ (r_6.1.1 : List (List Int))) (muts_cons (Enc.mut_enc _ _ _ _ (r_6.1.2 : List (Int × Int))) rfl))))), (keep_mut h7 rfl), (keep_mut h8 (mut_ref_ne rfl rfl (mut_agg (muts_cons rfl (muts_cons (mut_own_ne rfl rfl) rfl))))), (keep_mut h9 (mut_own_ne rfl rfl)), (keep_mut rfl rfl), h11⟩ ?_
  rintro s ⟨h1, h2, h4, h6, h7, h8, h9, h10, h11⟩
  refine .nsq (.seq (.seq (rg (gv (.agg [(encN 40 [0, 0] (r_9.1.1 : NL (NL Int))), (encO (.at 40 [0, 1]) (r_9.1.2 : NL (Int × Int)))]) (ev_loadN (c := (.agg [(encN 40 [0, 0] (r_9.1.1 : NL (NL Int))), (encO (.at 40 [0, 1]) (r_9.1.2 : NL (Int × Int)))])) h10 (by simp [V.shape, V.shapes, shape_encP, shape_encN, Sh.beq, Sh.beqs])) fun h43 => ?_))))
  refine g1 6 (.agg [(Enc.enc (r_6.1.1 : List (List Int))), (Enc.enc (r_6.1.2 : List (Int × Int)))]) h6 fun h44 => ?_
  obtain ⟨r_31, E_r_31, h⟩ := bind_some h
  refine g_call (m := 0) (al := false) (r := (Enc.enc (r_31 : Bool))) [Enc.enc (((List.map NL.list r_9.1.1.list), r_9.1.2.list) : ((List (List Int)) × (List (Int × Int)))), Enc.enc (r_6.1 : ((List (List Int)) × (List (Int × Int))))] (ta_cons (v := (.agg [(encN 40 [0, 0] (r_9.1.1 : NL (NL Int))), (encO (.at 40 [0, 1]) (r_9.1.2 : NL (Int × Int)))])) h43 rfl (erase_agg (erases_cons (erase_encN (o := (r_9.1.1 : NL (NL Int)))) (erases_cons (erase_encO (o := r_9.1.2)) erases_nil))) (ta_cons (v := (.agg [(Enc.enc (r_6.1.1 : List (List Int))), (Enc.enc (r_6.1.2 : List (Int × Int)))])) h44 rfl (Enc.erase_enc (r_6.1 : ((List (List Int)) × (List (Int × Int))))) ta_nil)) (H.c45 _ _ _ E_r_31) H.g45 rfl rfl rfl rfl ?_
  refine g1 45 (jb (!r_31)) (rfl : (_ : V) = (jb r_31)) fun h46 => ?_
  refine gm h46 fun h47 => split_on (c := (!r_31)) h (fun hg5 h => ?_) (fun hg5 h => ?_)
  · refine g_no (h47.trans (congrArg V.bool hg5)) ?_
    refine g_no (h47.trans (congrArg V.bool hg5)) ?_
    refine g_no (h47.trans (congrArg V.bool hg5)) ?_
    refine g2 47 50 (jb true) (h47.trans (congrArg V.bool hg5)) (rfl : (_ : V) = (.tup [])) fun h51 => ?_
    refine gq ?_
    exact t_f10_j3 H x_2 x_1 r_6 r_7 r_8 r_9 true _ ⟨h1, h2, h4, h6, h7, h8, h9, h10, h11, h51⟩ h
  refine g_yes (h47.trans (congrArg V.bool hg5)) (gm h11 fun h48 => ?_)
  refine g_yes (h47.trans (congrArg V.bool hg5)) (gm h7 fun h49 => ?_)
  refine g_yes (h47.trans (congrArg V.bool hg5)) (g2 48 49 (jb (r_9.2 != r_6.2)) h48 h49 fun h50 => ?_)
  refine g2 47 50 (jb (r_9.2 != r_6.2)) (h47.trans (congrArg V.bool hg5)) h50 fun h51 => ?_
  refine gq ?_
  exact t_f10_j3 H x_2 x_1 r_6 r_7 r_8 r_9 (r_9.2 != r_6.2) _ ⟨h1, h2, h4, h6, h7, h8, h9, h10, h11, h51⟩ h
end
def e10 (F : Nat) : Ent := ent 10 (fun (x : ((Int × (List (Int × Int))) × (List Int) × Unit)) => w_FnExactDecompositionOf F x.1 x.2.1) (fun (r : Bool) => (Enc.enc (r : Bool))) 0 false []
theorem p10 {F : Nat} {x0 : (Int × (List (Int × Int)))} {x1 : (List Int)} {r : Bool} (h : w_FnExactDecompositionOf F x0 x1 = some r) : (e10 F).den [Enc.enc x0, Enc.enc x1] = some (Enc.enc (r : Bool)) := ent_put (x0, x1, ()) h
theorem o10 {D : Den} {σ : Sig} {F : Nat} (hF : Fits2 Try.prog D σ) (H : H10 D σ F) : (e10 F).Ok Try.prog := by
  refine ok_of (f := 10) (show unk 10 = 10 from rfl) (fun args r h => ?_) ⟨Try.f10, Try.func10, rfl, rfl⟩
  obtain ⟨⟨x0, x1, _⟩, y, rfl, hy, rfl⟩ := da_open h
  exact contract_run hF (by kernel_rfl) Try.func10 rfl c10 (show 2 ≤ Try.f10.ntmps by decide) (t10 H x0 x1 _ ⟨rfl, rfl⟩ hy)
end Go.Zq
