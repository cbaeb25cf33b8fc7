/- Functions of the program as typed functions, and that the machine runs as they say (part 1). No further condition. -/
import Derived.Test.YtdhbhaaiohkpdaaK4
import Derived.Test.YtdhbhaaiohkpdaaProg
import Derived.Test.YtdhbhaaiohkpdaaChecked
import Derived.KernelRfl
set_option linter.unusedVariables false
set_option linter.unusedSimpArgs false
/- Functions of the program, as typed functions, and that the machine runs as they say. -/
namespace Go.Zq
open Go.Proofs
/- loop.example/g01109/laws.szIntA2S -/
def A59_3 : AC := (.cond (.t 10) (.seq (.reg [] [((jv 4 (.mov (jn (-1)))))] []) .ret) .skip)
def A59_4 : AC := (.seq (.reg [] [(jm 11 1), (jm 4 11)] []) .ret)
def A59_2 : AC := (.seq (.seq (.reg [] [(jm 9 1), ((jv 10 (.bin .lss (.t 9) (jn 0))))] []) A59_3) A59_4)
def A59_1 : AC := (.seq (.reg [] [(jm 5 1), (jm 6 0), ((jv 7 (.len (.t 6)))), ((jv 8 (.bin .sub (.t 5) (.t 7)))), (jm 1 8)] []) A59_2)
def A59 : AC := (.seq (.reg [] [((jv 4 (.mov (jn 0))))] []) A59_1)
def an59 : List An := []
theorem c59 : cC Try.prog Try.f59.ntmps an59 (Try.f59.body.getD .skip) = some A59 := by kernel_rfl
structure H59 (D : Den) (σ : Sig) (F : Nat) : Prop where
  mk ::
abbrev R59 (r : Int) : (Nat → V) → Prop := RR Try.prog [.tmp 4] 0 false (Enc.enc (r : Int))
section
variable {D : Den} {σ : Sig} {F : Nat} {r : Int}
def w_szIntA2S (F : Nat) (x_1 : (List (Int × Int))) (x_2 : Int) : Option Int :=
  bif decide ((w64 (x_2 - (x_1.length : Int))) < 0) then
    some (-1)
  else
    some (w64 (x_2 - (x_1.length : Int)))
theorem t59 (H : H59 D σ F) (x_1 : (List (Int × Int))) (x_2 : Int) (s : Nat → V) (hs : Facts [(0, (Enc.enc (x_1 : List (Int × Int)))), (1, (ji x_2))] s) (h : w_szIntA2S F x_1 x_2 = some r) : Run D σ (R59 r) (.run A59 []) s := by
  unfold w_szIntA2S at h
  obtain ⟨h0, h1⟩ := hs
  refine .seq (rg (g0 (ji 0) fun h4 => gq (.nsq (.seq (rg (gm h1 fun h5 => gm h0 fun h6 => gv (ji (x_1.length : Int)) (ev_len (xs := x_1) h6) fun h7 => ?_))))))
  refine g2 5 7 (ji (w64 (x_2 - (x_1.length : Int)))) h5 h7 fun h8 => ?_
  refine gm h8 fun h1 => gq (.nsq (.seq (.seq (rg (gm h1 fun h9 => g1 9 (jb (decide ((w64 (x_2 - (x_1.length : Int))) < 0))) h9 fun h10 => ?_)))))
  refine gq (.nsq (run_cond (t := decide ((w64 (x_2 - (x_1.length : Int))) < 0)) h10 h (fun h => ?_) (fun h => ?_)))
  · refine .seq (rg (g0 (ji (-1)) fun h4 => ?_))
    refine gq (.nsq (.ret ?_))
    have hr := Option.some.inj h
    subst hr
    exact rrA (res_tmp h4) rfl
  refine .skip (.nsq (.seq (rg (gm h1 fun h11 => gm h11 fun h4 => gq (.nsq (.ret ?_))))))
  have hr := Option.some.inj h
  subst hr
  exact rrA (res_tmp h4) rfl
end
def e59 (F : Nat) : Ent := ent 59 (fun (x : ((List (Int × Int)) × Int × Unit)) => w_szIntA2S F x.1 x.2.1) (fun (r : Int) => (Enc.enc (r : Int))) 0 false []
theorem p59 {F : Nat} {x0 : (List (Int × Int))} {x1 : Int} {r : Int} (h : w_szIntA2S F x0 x1 = some r) : (e59 F).den [Enc.enc x0, Enc.enc x1] = some (Enc.enc (r : Int)) := ent_put (x0, x1, ()) h
theorem o59 {D : Den} {σ : Sig} {F : Nat} (hF : Fits2 Try.prog D σ) (H : H59 D σ F) : (e59 F).Ok Try.prog := by
  refine ok_of (f := 59) (show unk 59 = 59 from rfl) (fun args r h => ?_) ⟨Try.f59, Try.func59, rfl, rfl⟩
  obtain ⟨⟨x0, x1, _⟩, y, rfl, hy, rfl⟩ := da_open h
  exact contract_run hF (by kernel_rfl) Try.func59 rfl c59 (show 2 ≤ Try.f59.ntmps by decide) (t59 H x0 x1 _ ⟨rfl, rfl⟩ hy)
/- loop.example/g01109/laws.szGraph -/
def A15_3 : AC := (.cond (.t 10) (.seq (.reg [] [((jv 4 (.mov (jn (-1)))))] []) .ret) .skip)
def A15_4 : AC := (.seq (.reg [] [(jm 11 1), (jm 4 11)] []) .ret)
def A15_2 : AC := (.seq (.seq (.reg [] [(jm 9 1), ((jv 10 (.bin .lss (.t 9) (jn 0))))] []) A15_3) A15_4)
def A15_1 : AC := (.seq (.reg [] [((jv 5 (.fld (.t 2) 1 1))), ((jv 6 (.load .p (.t 5)))), (jm 7 1), (.mk (some 8) none false (.call (.k (.fn 59 [] [])) [(.t 6), (.t 7)])), (jm 1 8)] []) A15_2)
def A15 : AC := (.seq (.reg [.clr [2]] [(.mk (some 2) none false (.box (.t 0))), ((jv 4 (.mov (jn 0))))] []) A15_1)
def an15 : List An := [{ id := 0, pre := [.clr [2]], ep := [], lin := [], sp := [] }]
theorem c15 : cC Try.prog Try.f15.ntmps an15 (Try.f15.body.getD .skip) = some A15 := by kernel_rfl
structure H15 (D : Den) (σ : Sig) (F : Nat) : Prop where
  c59 : ∀ (x0 : (List (Int × Int))) (x1 : Int) r, w_szIntA2S F x0 x1 = some r → D 59 [Enc.enc x0, Enc.enc x1] = some (Enc.enc (r : Int))
  g59 : σ 59 = some (0, false)
abbrev R15 (r : Int) : (Nat → V) → Prop := RR Try.prog [.tmp 4] 0 false (Enc.enc (r : Int))
section
variable {D : Den} {σ : Sig} {F : Nat} {r : Int}
def w_szGraph (F : Nat) (x_1 : (Int × (List (Int × Int)))) (x_2 : Int) : Option Int :=
  (w_szIntA2S F x_1.2 x_2).bind fun r_3 =>
  bif decide (r_3 < 0) then
    some (-1)
  else
    some r_3
theorem t15 (H : H15 D σ F) (x_1 : (Int × (List (Int × Int)))) (x_2 : Int) (s : Nat → V) (hs : Facts [(0, (.agg [(ji x_1.1), (Enc.enc (x_1.2 : List (Int × Int)))])), (1, (ji x_2))] s) (h : w_szGraph F x_1 x_2 = some r) : Run D σ (R15 r) (.run A15 []) s := by
  unfold w_szGraph at h
  obtain ⟨h0, h1⟩ := hs
  refine .seq (run_reg ?_)
  refine e_clr ?_
  refine ez [(0, _), (1, _), (2, _)] ⟨(keep_clear (pk := [2]) h0 rfl (map_agg (maps_cons mi (maps_cons me maps_nil)))), (keep_clear (pk := [2]) h1 rfl mi), (gone_clear (pk := [2]) (t := 2) rfl)⟩ ?_
  rintro s ⟨h0, h1, h2⟩
  refine g_box (.agg [(ji x_1.1), (Enc.enc (x_1.2 : List (Int × Int)))]) (rd_of h0 rfl) h2 rfl ?_
  refine g0 (ji 0) fun h4 => gq (.nsq (.seq (rg (g1 2 (.ref (.bx 2) 0 [1] (Enc.enc (x_1.2 : List (Int × Int)))) (rfl : (_ : V) = (.ref (.bx 2) 0 [] (.agg [(ji x_1.1), (Enc.enc (x_1.2 : List (Int × Int)))]))) fun h5 => ?_))))
  refine g1 5 (Enc.enc (x_1.2 : List (Int × Int))) h5 fun h6 => ?_
  refine gm h1 fun h7 => ?_
  obtain ⟨r_3, E_r_3, h⟩ := bind_some h
  refine g_call (m := 0) (al := false) (r := (Enc.enc (r_3 : Int))) [Enc.enc (x_1.2 : (List (Int × Int))), Enc.enc (x_2 : Int)] (ta_cons (v := (Enc.enc (x_1.2 : List (Int × Int)))) h6 rfl (Enc.erase_enc (x_1.2 : (List (Int × Int)))) (ta_cons (v := (ji x_2)) h7 rfl rfl ta_nil)) (H.c59 _ _ _ E_r_3) H.g59 rfl rfl rfl rfl ?_
  refine gm (rfl : (_ : V) = (ji r_3)) fun h1 => ?_
  refine gq (.nsq (.seq (.seq (rg (gm h1 fun h9 => g1 9 (jb (decide (r_3 < 0))) h9 fun h10 => ?_)))))
  refine gq (.nsq (run_cond (t := decide (r_3 < 0)) h10 h (fun h => ?_) (fun h => ?_)))
  · refine .seq (rg (g0 (ji (-1)) fun h4 => ?_))
    refine gq (.nsq (.ret ?_))
    have hr := Option.some.inj h
    subst hr
    exact rrA (res_tmp h4) rfl
  refine .skip (.nsq (.seq (rg (gm h1 fun h11 => gm h11 fun h4 => gq (.nsq (.ret ?_))))))
  have hr := Option.some.inj h
  subst hr
  exact rrA (res_tmp h4) rfl
end
def e15 (F : Nat) : Ent := ent 15 (fun (x : ((Int × (List (Int × Int))) × Int × Unit)) => w_szGraph F x.1 x.2.1) (fun (r : Int) => (Enc.enc (r : Int))) 0 false []
theorem p15 {F : Nat} {x0 : (Int × (List (Int × Int)))} {x1 : Int} {r : Int} (h : w_szGraph F x0 x1 = some r) : (e15 F).den [Enc.enc x0, Enc.enc x1] = some (Enc.enc (r : Int)) := ent_put (x0, x1, ()) h
theorem o15 {D : Den} {σ : Sig} {F : Nat} (hF : Fits2 Try.prog D σ) (H : H15 D σ F) : (e15 F).Ok Try.prog := by
  refine ok_of (f := 15) (show unk 15 = 15 from rfl) (fun args r h => ?_) ⟨Try.f15, Try.func15, rfl, rfl⟩
  obtain ⟨⟨x0, x1, _⟩, y, rfl, hy, rfl⟩ := da_open h
  exact contract_run hF (by kernel_rfl) Try.func15 rfl c15 (show 2 ≤ Try.f15.ntmps by decide) (t15 H x0 x1 _ ⟨rfl, rfl⟩ hy)
/- loop.example/g01109/laws.toIntA2 -/
def A123_2 : AC := (.cond (.t 6) .skip (.exit 0))
def A123_4 : AC := (.reg [] [(jm 7 4), ((jv 8 (.bin .add (.t 7) (jn 1)))), (jm 4 8)] [])
def A123_3 : AC := (.seq (.block 1 (.reg [] [(jm 9 4), (jm 10 4), ((jv 11 (.idxA (.t 1) (.t 10) 2 1))), ((jv 12 (.load .s (.t 11)))), ((jv 13 (.idxA (.t 3) (.t 9) 2 1))), (.mk none none false (.store .s (.t 13) (.t 12)))] [])) A123_4)
def A123_1 : AC := (.seq (.seq (.reg [] [(jm 5 4), ((jv 6 (.bin .lss (.t 5) (jn 2))))] []) A123_2) A123_3)
def A123_5 : AC := (.seq (.reg [] [((jv 14 (.load (.ag [.s, .s]) (.t 3)))), (.mk none none false (.store (.ag [.s, .s]) (.t 2) (.t 14)))] []) .ret)
def A123_8 : AC := (.block 0 (.loop A123_1))
def A123_7 : AC := (.seq (.seq (.reg [] [((jv 4 (.mov (jn 0))))] []) A123_8) A123_5)
def A123_6 : AC := (.seq (.reg [.clr [3]] [(.mk (some 3) none false (.alloc (.agg [(.int .i64 (.ofNat 0)), (.int .i64 (.ofNat 0))])))] []) A123_7)
def A123 : AC := (.seq (.reg [.clr [1, 2]] [(.mk (some 1) none false (.box (.t 0))), (.mk (some 2) none false (.alloc (.agg [(.int .i64 (.ofNat 0)), (.int .i64 (.ofNat 0))])))] []) A123_6)
def an123 : List An := [{ id := 0, pre := [.clr [1, 2]], ep := [], lin := [], sp := [] }, { id := 1, pre := [.clr [3]], ep := [], lin := [], sp := [] }]
theorem c123 : cC Try.prog Try.f123.ntmps an123 (Try.f123.body.getD .skip) = some A123 := by kernel_rfl
structure H123 (D : Den) (σ : Sig) (F : Nat) : Prop where
  mk ::
abbrev R123 (r : (Int × Int)) : (Nat → V) → Prop := RR Try.prog [.cell 2 103] 0 false (Enc.enc (r : (Int × Int)))
section
variable {D : Den} {σ : Sig} {F : Nat} {r : (Int × Int)}
def w_toIntA2_l1 (F : Nat) (x_1 : (Int × Int))  : Nat → Int → Int → Int → Option (Int × Int)
  | 0, _, _, _ => none
  | k + 1, x_2, x_3, x_6 =>
    bif decide (x_3 < 2) then
      (idx [x_1.1, x_1.2] x_3).bind fun e_9 =>
      (idx [x_2, x_6] x_3).bind fun e_10 =>
      (w_toIntA2_l1 F x_1 k) (bif x_3 == 0 then e_9 else x_2) (w64 (x_3 + 1)) (bif x_3 == 1 then e_9 else x_6)
    else
      some (x_2, x_6)
theorem t_f123_l1 (H : H123 D σ F) (x_1 : (Int × Int))  : ∀ (k : Nat) (x_2 : Int) (x_3 : Int) (x_6 : Int) (s : Nat → V), Facts [(1, (.ref (.bx 1) 0 [] (.agg [(ji x_1.1), (ji x_1.2)]))), (2, (.ref (.bx 2) 0 [] (.agg [(ji 0), (ji 0)]))), (3, (.ref (.bx 3) 0 [] (.agg [(ji x_2), (ji x_6)]))), (4, (ji x_3))] s → w_toIntA2_l1 F x_1 k x_2 x_3 x_6 = some r → Run D σ (R123 r) (.run A123_1 [.lp A123_1, .bk 0, .sq A123_5]) s := by
  intro k
  induction k with
  | zero => intro x_2 x_3 x_6 s _ h; exact nomatch (h : (none : Option _) = some r)
  | succ k ih =>
    intro x_2 x_3 x_6 s hs h
    rw [w_toIntA2_l1] at h
    obtain ⟨h1, h2, h3, h4⟩ := hs
    refine .seq (.seq (rg (gm h4 fun h5 => g1 5 (jb (decide (x_3 < 2))) h5 fun h6 => ?_)))
    refine gq (.nsq (run_cond (t := decide (x_3 < 2)) h6 h (fun h => ?_) (fun h => ?_)))
    · refine .skip (.nsq (.seq (.block (rg (gm h4 fun h9 => gm h4 fun h10 => ?_)))))
      obtain ⟨e_9, E_e_9, h⟩ := bind_some h
      refine gv (.ref (.bx 1) 0 [x_3.toNat] (ji e_9)) (ev_idxA (xs := [x_1.1, x_1.2]) (a := e_9) (n := x_3) (q := []) h1 h10 E_e_9 rfl rfl rfl) fun h11 => ?_
      refine g1 11 (ji e_9) h11 fun h12 => ?_
      obtain ⟨e_10, E_e_10, h⟩ := bind_some h
      refine gv (.ref (.bx 3) 0 [x_3.toNat] (ji e_10)) (ev_idxA (xs := [x_2, x_6]) (a := e_10) (n := x_3) (q := []) h3 h9 E_e_10 rfl rfl rfl) fun h13 => ?_
      refine g_store (ji e_9) (rd_of h13 rfl) (rd_of h12 rfl) (by refine ⟨by decide, by decide, rfl, rfl, rfl, ?_⟩; first | rfl | (simp [V.toks, V.tokss, Enc.toks_enc]; done) | simp [V.toks, V.tokss, Enc.toks_enc, tok_memP]) ?_
      refine gz [(1, (.ref (.bx 1) 0 [] (.agg [(ji x_1.1), (ji x_1.2)]))), (2, (.ref (.bx 2) 0 [] (.agg [(ji 0), (ji 0)]))), (3, (.ref (.bx 3) 0 [] (.agg [(ji (bif x_3 == 0 then e_9 else x_2)), (ji (bif x_3 == 1 then e_9 else x_6))]))), (4, (ji x_3))] ⟨(keep_mut h1 rfl), (keep_mut h2 rfl), (keep_mut h3 (mut_ix2 E_e_10 rfl)), (keep_mut h4 rfl)⟩ ?_
      rintro s ⟨h1, h2, h3, h4⟩
      refine .nbk (.nsq (rg (gm h4 fun h7 => g1 7 (ji (w64 (x_3 + 1))) h7 fun h8 => ?_)))
      refine gm h8 fun h4 => gq (.nlp ?_)
      exact ih (bif x_3 == 0 then e_9 else x_2) (w64 (x_3 + 1)) (bif x_3 == 1 then e_9 else x_6) _ ⟨h1, h2, h3, h4⟩ h
    refine .exit (.esq (.elp (.ebk (.nsq (.seq (rg (g1 3 (.agg [(ji x_2), (ji x_6)]) h3 fun h14 => ?_)))))))
    refine g_store (.agg [(ji x_2), (ji x_6)]) (rd_of h2 rfl) (rd_of h14 rfl) (by refine ⟨by decide, by decide, rfl, rfl, rfl, ?_⟩; first | rfl | (simp [V.toks, V.tokss, Enc.toks_enc]; done) | simp [V.toks, V.tokss, Enc.toks_enc, tok_memP]) ?_
    refine gz [(2, (.ref (.bx 2) 0 [] (.agg [(ji x_2), (ji x_6)])))] (keep_mut h2 rfl) ?_
    rintro s h2
    refine .nsq (.ret ?_)
    have hr := Option.some.inj h
    subst hr
    exact rrA (res_cell h2 (by kernel_rfl)) rfl
def w_toIntA2 (F : Nat) (x_1 : (Int × Int)) : Option (Int × Int) :=
  w_toIntA2_l1 F x_1 F 0 0 0
theorem t123 (H : H123 D σ F) (x_1 : (Int × Int)) (s : Nat → V) (hs : Facts [(0, (.agg [(ji x_1.1), (ji x_1.2)]))] s) (h : w_toIntA2 F x_1 = some r) : Run D σ (R123 r) (.run A123 []) s := by
  unfold w_toIntA2 at h
  have h0 := hs
  refine .seq (run_reg ?_)
  refine e_clr ?_
  refine ez [(0, _), (1, _), (2, _)] ⟨(keep_clear (pk := [1, 2]) h0 rfl (map_agg (maps_cons mi (maps_cons mi maps_nil)))), (gone_clear (pk := [1, 2]) (t := 1) rfl), (gone_clear (pk := [1, 2]) (t := 2) rfl)⟩ ?_
  rintro s ⟨h0, h1, h2⟩
  refine g_box (.agg [(ji x_1.1), (ji x_1.2)]) (rd_of h0 rfl) h1 rfl ?_
  refine g_alloc h2 ?_
  refine gq (.nsq (.seq (run_reg ?_)))
  refine e_clr ?_
  refine ez [(1, _), (2, _), (3, _)] ⟨(keep_clear (pk := [3]) rfl rfl (map_bx rfl (map_agg (maps_cons mi (maps_cons mi maps_nil))))), (keep_clear (pk := [3]) rfl rfl (map_bx rfl (map_agg (maps_cons mi (maps_cons mi maps_nil))))), (gone_clear (pk := [3]) (t := 3) rfl)⟩ ?_
  rintro s ⟨h1, h2, h3⟩
  refine g_alloc h3 ?_
  refine gq (.nsq (.seq (.seq (rg (g0 (ji 0) fun h4 => gq (.nsq (.block (.loop ?_))))))))
  exact t_f123_l1 H x_1 F 0 0 0 _ ⟨h1, h2, rfl, h4⟩ h
end
def e123 (F : Nat) : Ent := ent 123 (fun (x : ((Int × Int) × Unit)) => w_toIntA2 F x.1) (fun (r : (Int × Int)) => (Enc.enc (r : (Int × Int)))) 0 false []
theorem p123 {F : Nat} {x0 : (Int × Int)} {r : (Int × Int)} (h : w_toIntA2 F x0 = some r) : (e123 F).den [Enc.enc x0] = some (Enc.enc (r : (Int × Int))) := ent_put (x0, ()) h
theorem o123 {D : Den} {σ : Sig} {F : Nat} (hF : Fits2 Try.prog D σ) (H : H123 D σ F) : (e123 F).Ok Try.prog := by
  refine ok_of (f := 123) (show unk 123 = 123 from rfl) (fun args r h => ?_) ⟨Try.f123, Try.func123, rfl, rfl⟩
  obtain ⟨⟨x0, _⟩, y, rfl, hy, rfl⟩ := da_open h
  exact contract_run hF (by kernel_rfl) Try.func123 rfl c123 (show 1 ≤ Try.f123.ntmps by decide) (t123 H x0 _ rfl hy)
/- loop.example/g01109/laws.toIntA2S -/
def A62_2 : AC := (.cond (.t 11) .skip (.exit 0))
def A62_4 : AC := (.reg [] [(jm 12 4), ((jv 13 (.bin .add (.t 12) (jn 1)))), (jm 4 13)] [])
def A62_3 : AC := (.seq (.block 1 (.reg [] [(jm 14 3), (jm 15 4), (jm 16 0), (jm 17 4), ((jv 18 (.idx (.t 16) (.t 17) 2))), ((jv 19 (.load (.ag [.s, .s]) (.t 18)))), (.mk (some 20) none false (.call (.k (.fn 123 [] [])) [(.t 19)])), ((jv 21 (.idx (.t 14) (.t 15) 2))), (.mk none none false (.store (.ag [.s, .s]) (.t 21) (.t 20)))] [])) A62_4)
def A62_1 : AC := (.seq (.seq (.reg [] [(jm 8 4), (jm 9 0), ((jv 10 (.len (.t 9)))), ((jv 11 (.bin .lss (.t 8) (.t 10))))] []) A62_2) A62_3)
def A62_5 : AC := (.seq (.reg [] [(jm 22 3), (jm 2 22)] [.home 3 2]) .ret)
def A62_8 : AC := (.block 0 (.loop A62_1))
def A62_7 : AC := (.seq (.seq (.reg [] [((jv 4 (.mov (jn 0))))] []) A62_8) A62_5)
def A62_6 : AC := (.seq (.reg [.clr [7]] [(jm 5 0), ((jv 6 (.len (.t 5)))), (.mk (some 7) none false (.mk (.t 6) (.agg [(.int .i64 (.ofNat 0)), (.int .i64 (.ofNat 0))]) (.agg [(.int .i64 (.ofNat 0)), (.int .i64 (.ofNat 0))]))), (jm 3 7)] [.home 7 3]) A62_7)
def A62 : AC := (.seq (.reg [] [((jv 2 (.mov (.k (.sl .nl (.ag [.s, .s]) 0 [])))))] []) A62_6)
def an62 : List An := [{ id := 1, pre := [.clr [7]], ep := [.home 7 3], lin := [], sp := [] }, { id := 6, pre := [], ep := [.home 3 2], lin := [], sp := [] }]
theorem c62 : cC Try.prog Try.f62.ntmps an62 (Try.f62.body.getD .skip) = some A62 := by kernel_rfl
structure H62 (D : Den) (σ : Sig) (F : Nat) : Prop where
  c123 : ∀ (x0 : (Int × Int)) r, w_toIntA2 F x0 = some r → D 123 [Enc.enc x0] = some (Enc.enc (r : (Int × Int)))
  g123 : σ 123 = some (0, false)
abbrev R62 (r : (List (Int × Int))) : (Nat → V) → Prop := RR Try.prog [.tmp 2] 0 false (Enc.enc (r : (List (Int × Int))))
section
variable {D : Den} {σ : Sig} {F : Nat} {r : (List (Int × Int))}
def w_toIntA2S_l1 (F : Nat) (x_1 : (List (Int × Int)))  : Nat → (List (Int × Int)) → Int → Option (List (Int × Int))
  | 0, _, _ => none
  | k + 1, x_6, x_7 =>
    bif decide (x_7 < (x_1.length : Int)) then
      (idx x_1 x_7).bind fun e_11 =>
      (w_toIntA2 F e_11).bind fun r_12 =>
      (idx x_6 x_7).bind fun e_13 =>
      (w_toIntA2S_l1 F x_1 k) (x_6.set x_7.toNat r_12) (w64 (x_7 + 1))
    else
      some x_6
theorem t_f62_l1 (H : H62 D σ F) (x_1 : (List (Int × Int)))  : ∀ (k : Nat) (x_6 : (List (Int × Int))) (x_7 : Int) (s : Nat → V), Facts [(0, (Enc.enc (x_1 : List (Int × Int)))), (2, (.sl .nl (Enc.shp (Int × Int)) 0 [])), (3, (encO (.at 3 []) (.of (x_6 : List (Int × Int))))), (4, (ji x_7))] s → w_toIntA2S_l1 F x_1 k x_6 x_7 = some r → Run D σ (R62 r) (.run A62_1 [.lp A62_1, .bk 0, .sq A62_5]) s := by
  intro k
  induction k with
  | zero => intro x_6 x_7 s _ h; exact nomatch (h : (none : Option _) = some r)
  | succ k ih =>
    intro x_6 x_7 s hs h
    rw [w_toIntA2S_l1] at h
    obtain ⟨h0, h2, h3, h4⟩ := hs
    refine .seq (.seq (rg (gm h4 fun h8 => gm h0 fun h9 => gv (ji (x_1.length : Int)) (ev_len (xs := x_1) h9) fun h10 => ?_)))
    refine g2 8 10 (jb (decide (x_7 < (x_1.length : Int)))) h8 h10 fun h11 => ?_
    refine gq (.nsq (run_cond (t := decide (x_7 < (x_1.length : Int))) h11 h (fun h => ?_) (fun h => ?_)))
    · refine .skip (.nsq (.seq (.block (rg (gm h3 fun h14 => gm h4 fun h15 => gm h0 fun h16 => gm h4 fun h17 => ?_)))))
      obtain ⟨e_11, E_e_11, h⟩ := bind_some h
      refine gv (.ref .sh 0 [] (.agg [(ji e_11.1), (ji e_11.2)])) (ev_idx (t := .sh) (lo := 0) (xs := x_1) h16 h17 E_e_11 rfl rfl) fun h18 => ?_
      refine g1 18 (.agg [(ji e_11.1), (ji e_11.2)]) h18 fun h19 => ?_
      obtain ⟨r_12, E_r_12, h⟩ := bind_some h
      refine g_call (m := 0) (al := false) (r := (Enc.enc (r_12 : (Int × Int)))) [Enc.enc (e_11 : (Int × Int))] (ta_cons (v := (.agg [(ji e_11.1), (ji e_11.2)])) h19 rfl (Enc.erase_enc (e_11 : (Int × Int))) ta_nil) (H.c123 _ _ E_r_12) H.g123 rfl rfl rfl rfl ?_
      obtain ⟨e_13, E_e_13, h⟩ := bind_some h
      refine gv (.ref (.at 3 []) x_7.toNat [] (.agg [(ji e_13.1), (ji e_13.2)])) (ev_idxO (o := (.of x_6)) h14 h15 E_e_13 rfl) fun h21 => ?_
      refine g_store (.agg [(ji r_12.1), (ji r_12.2)]) (rd_of h21 rfl) (rd_of rfl rfl) (by refine ⟨by decide, by decide, rfl, rfl, rfl, ?_⟩; first | rfl | (simp [V.toks, V.tokss, Enc.toks_enc]; done) | simp [V.toks, V.tokss, Enc.toks_enc, tok_memP]) ?_
      refine gz [(0, (Enc.enc (x_1 : List (Int × Int)))), (2, (.sl .nl (Enc.shp (Int × Int)) 0 [])), (3, _), (4, (ji x_7))] ⟨(keep_mut h0 (Enc.mut_enc _ _ _ _ (x_1 : List (Int × Int)))), (keep_mut h2 rfl), (keep_mut h3 mut_own), (keep_mut h4 rfl)⟩ ?_
      rintro s ⟨h0, h2, h3, h4⟩
      refine .nbk (.nsq (rg (gm h4 fun h12 => g1 12 (ji (w64 (x_7 + 1))) h12 fun h13 => ?_)))
      refine gm h13 fun h4 => gq (.nlp ?_)
      exact ih (x_6.set x_7.toNat r_12) (w64 (x_7 + 1)) _ ⟨h0, h2, h3, h4⟩ h
    refine .exit (.esq (.elp (.ebk (.nsq (.seq (rg (gm h3 fun h22 => gm h22 fun h2 => g_end ?_)))))))
    refine e_home (r := 3) (x := 2) (v := _) h2 rfl (fun s_3 hg_3 => ?_)
    refine ez [(2, (encO (.at 2 []) (.of (x_6 : List (Int × Int)))))] (hg_3 2 _ _ h2 (map_encO (r := 3) (p := []) rfl rfl)) ?_
    rintro s h2
    refine .nsq (.ret ?_)
    have hr := Option.some.inj h
    subst hr
    exact rrA (res_tmp h2) (fin_retF (fin_own (o := .of x_6)) (mine_own rfl))
def w_toIntA2S (F : Nat) (x_1 : (List (Int × Int))) : Option (List (Int × Int)) :=
  (mkN (x_1.length : Int) (0, 0)).bind fun mk_2 =>
  w_toIntA2S_l1 F x_1 F mk_2 0
theorem t62 (H : H62 D σ F) (x_1 : (List (Int × Int))) (s : Nat → V) (hs : Facts [(0, (Enc.enc (x_1 : List (Int × Int))))] s) (h : w_toIntA2S F x_1 = some r) : Run D σ (R62 r) (.run A62 []) s := by
  unfold w_toIntA2S at h
  have h0 := hs
  refine .seq (rg (g0 (.sl .nl (Enc.shp (Int × Int)) 0 []) fun h2 => ?_))
  refine gq (.nsq (.seq (run_reg ?_)))
  refine e_clr ?_
  refine ez [(0, _), (2, _), (7, _)] ⟨(keep_clear (pk := [7]) h0 rfl me), (keep_clear (pk := [7]) h2 rfl rfl), (gone_clear (pk := [7]) (t := 7) rfl)⟩ ?_
  rintro s ⟨h0, h2, h7⟩
  refine gm h0 fun h5 => gv (ji (x_1.length : Int)) (ev_len (xs := x_1) h5) fun h6 => ?_
  obtain ⟨mk_2, E_mk_2, h⟩ := bind_some h
  refine g_mk ((0, 0) : (Int × Int)) h6 rfl h7 E_mk_2 ?_
  refine gm (rfl : (_ : V) = (encO (.at 7 []) (.of (mk_2 : List (Int × Int))))) fun h3 => ?_
  refine g_end ?_
  refine e_home (r := 7) (x := 3) (v := _) h3 rfl (fun s_2 hg_2 => ?_)
  refine ez [(0, (Enc.enc (x_1 : List (Int × Int)))), (2, (.sl .nl (Enc.shp (Int × Int)) 0 [])), (3, (encO (.at 3 []) (.of (mk_2 : List (Int × Int)))))] ⟨(hg_2 0 _ _ h0 me), (hg_2 2 _ (.sl .nl (Enc.shp (Int × Int)) 0 []) h2 rfl), (hg_2 3 _ _ h3 (map_encO (r := 7) (p := []) rfl rfl))⟩ ?_
  rintro s ⟨h0, h2, h3⟩
  refine .nsq (.seq (.seq (rg (g0 (ji 0) fun h4 => gq (.nsq (.block (.loop ?_)))))))
  exact t_f62_l1 H x_1 F mk_2 0 _ ⟨h0, h2, h3, h4⟩ h
end
def e62 (F : Nat) : Ent := ent 62 (fun (x : ((List (Int × Int)) × Unit)) => w_toIntA2S F x.1) (fun (r : (List (Int × Int))) => (Enc.enc (r : (List (Int × Int))))) 0 false []
theorem p62 {F : Nat} {x0 : (List (Int × Int))} {r : (List (Int × Int))} (h : w_toIntA2S F x0 = some r) : (e62 F).den [Enc.enc x0] = some (Enc.enc (r : (List (Int × Int)))) := ent_put (x0, ()) h
theorem o62 {D : Den} {σ : Sig} {F : Nat} (hF : Fits2 Try.prog D σ) (H : H62 D σ F) : (e62 F).Ok Try.prog := by
  refine ok_of (f := 62) (show unk 62 = 62 from rfl) (fun args r h => ?_) ⟨Try.f62, Try.func62, rfl, rfl⟩
  obtain ⟨⟨x0, _⟩, y, rfl, hy, rfl⟩ := da_open h
  exact contract_run hF (by kernel_rfl) Try.func62 rfl c62 (show 1 ≤ Try.f62.ntmps by decide) (t62 H x0 _ rfl hy)
/- loop.example/g01109/laws.toGraph -/
def A17_4 : AC := (.seq (.reg [] [((jv 11 (.load (.ag [.s, .p]) (.t 3)))), (.mk none none false (.store (.ag [.s, .p]) (.t 2) (.t 11)))] []) .ret)
def A17_3 : AC := (.seq (.reg [] [((jv 7 (.fld (.t 1) 1 1))), ((jv 8 (.load .p (.t 7)))), (.mk (some 9) none false (.call (.k (.fn 62 [] [])) [(.t 8)])), ((jv 10 (.fld (.t 3) 1 1))), (.mk none none false (.store .p (.t 10) (.t 9)))] []) A17_4)
def A17_2 : AC := (.seq (.reg [] [((jv 4 (.fld (.t 1) 0 0))), ((jv 5 (.load .s (.t 4)))), ((jv 6 (.fld (.t 3) 0 0))), (.mk none none false (.store .s (.t 6) (.t 5)))] []) A17_3)
def A17_1 : AC := (.seq (.reg [.clr [3]] [(.mk (some 3) none false (.alloc (.agg [(.int .i64 (.ofNat 0)), (.sl .nl (.ag [.s, .s]) 0 [])])))] []) A17_2)
def A17 : AC := (.seq (.reg [.clr [1, 2]] [(.mk (some 1) none false (.box (.t 0))), (.mk (some 2) none false (.alloc (.agg [(.int .i64 (.ofNat 0)), (.sl .nl (.ag [.s, .s]) 0 [])])))] []) A17_1)
def an17 : List An := [{ id := 0, pre := [.clr [1, 2]], ep := [], lin := [], sp := [] }, { id := 1, pre := [.clr [3]], ep := [], lin := [], sp := [] }]
theorem c17 : cC Try.prog Try.f17.ntmps an17 (Try.f17.body.getD .skip) = some A17 := by kernel_rfl
structure H17 (D : Den) (σ : Sig) (F : Nat) : Prop where
  c62 : ∀ (x0 : (List (Int × Int))) r, w_toIntA2S F x0 = some r → D 62 [Enc.enc x0] = some (Enc.enc (r : (List (Int × Int))))
  g62 : σ 62 = some (0, false)
abbrev R17 (r : (Int × (List (Int × Int)))) : (Nat → V) → Prop := RR Try.prog [.cell 2 27] 0 true (Enc.enc (r : (Int × (List (Int × Int)))))
section
variable {D : Den} {σ : Sig} {F : Nat} {r : (Int × (List (Int × Int)))}
def w_toGraph (F : Nat) (x_1 : (Int × (List (Int × Int)))) : Option (Int × (List (Int × Int))) :=
  (w_toIntA2S F x_1.2).bind fun r_2 =>
  some (x_1.1, r_2)
theorem t17 (H : H17 D σ F) (x_1 : (Int × (List (Int × Int)))) (s : Nat → V) (hs : Facts [(0, (.agg [(ji x_1.1), (Enc.enc (x_1.2 : List (Int × Int)))]))] s) (h : w_toGraph F x_1 = some r) : Run D σ (R17 r) (.run A17 []) s := by
  unfold w_toGraph at h
  have h0 := hs
  refine .seq (run_reg ?_)
  refine e_clr ?_
  refine ez [(0, _), (1, _), (2, _)] ⟨(keep_clear (pk := [1, 2]) h0 rfl (map_agg (maps_cons mi (maps_cons me maps_nil)))), (gone_clear (pk := [1, 2]) (t := 1) rfl), (gone_clear (pk := [1, 2]) (t := 2) rfl)⟩ ?_
  rintro s ⟨h0, h1, h2⟩
  refine g_box (.agg [(ji x_1.1), (Enc.enc (x_1.2 : List (Int × Int)))]) (rd_of h0 rfl) h1 rfl ?_
  refine g_alloc h2 ?_
  refine gq (.nsq (.seq (run_reg ?_)))
  refine e_clr ?_
  refine ez [(1, _), (2, _), (3, _)] ⟨(keep_clear (pk := [3]) rfl rfl (map_bx rfl (map_agg (maps_cons mi (maps_cons me maps_nil))))), (keep_clear (pk := [3]) rfl rfl (map_bx rfl (map_agg (maps_cons mi (maps_cons rfl maps_nil))))), (gone_clear (pk := [3]) (t := 3) rfl)⟩ ?_
  rintro s ⟨h1, h2, h3⟩
  refine g_alloc h3 ?_
  refine gq (.nsq (.seq (rg (g1 1 (.ref (.bx 1) 0 [0] (ji x_1.1)) h1 fun h4 => ?_))))
  refine g1 4 (ji x_1.1) h4 fun h5 => ?_
  refine g1 3 (.ref (.bx 3) 0 [0] (ji 0)) (rfl : (_ : V) = (.ref (.bx 3) 0 [] (.agg [(ji 0), (.sl .nl (Enc.shp (Int × Int)) 0 [])]))) fun h6 => ?_
  refine g_store (ji x_1.1) (rd_of h6 rfl) (rd_of h5 rfl) (by refine ⟨by decide, by decide, rfl, rfl, rfl, ?_⟩; first | rfl | (simp [V.toks, V.tokss, Enc.toks_enc]; done) | simp [V.toks, V.tokss, Enc.toks_enc, tok_memP]) ?_
  refine gz [(1, (.ref (.bx 1) 0 [] (.agg [(ji x_1.1), (Enc.enc (x_1.2 : List (Int × Int)))]))), (2, (.ref (.bx 2) 0 [] (.agg [(ji 0), (.sl .nl (Enc.shp (Int × Int)) 0 [])]))), (3, (.ref (.bx 3) 0 [] (.agg [(ji x_1.1), (.sl .nl (Enc.shp (Int × Int)) 0 [])])))] ⟨(keep_mut h1 (mut_ref_ne rfl rfl (mut_agg (muts_cons rfl (muts_cons (Enc.mut_enc _ _ _ _ (x_1.2 : List (Int × Int))) rfl))))), (keep_mut h2 (mut_ref_ne rfl rfl (mut_agg (muts_cons rfl (muts_cons rfl rfl))))), (keep_mut rfl rfl)⟩ ?_
  rintro s ⟨h1, h2, h3⟩
  refine .nsq (.seq (rg (g1 1 (.ref (.bx 1) 0 [1] (Enc.enc (x_1.2 : List (Int × Int)))) h1 fun h7 => ?_)))
  refine g1 7 (Enc.enc (x_1.2 : List (Int × Int))) h7 fun h8 => ?_
  obtain ⟨r_2, E_r_2, h⟩ := bind_some h
  refine g_call (m := 0) (al := false) (r := (Enc.enc (r_2 : (List (Int × Int))))) [Enc.enc (x_1.2 : (List (Int × Int)))] (ta_cons (v := (Enc.enc (x_1.2 : List (Int × Int)))) h8 rfl (Enc.erase_enc (x_1.2 : (List (Int × Int)))) ta_nil) (H.c62 _ _ E_r_2) H.g62 rfl rfl rfl rfl ?_
  refine g1 3 (.ref (.bx 3) 0 [1] (.sl .nl (Enc.shp (Int × Int)) 0 [])) h3 fun h10 => ?_
  refine g_store (Enc.enc (r_2 : List (Int × Int))) (rd_of h10 rfl) (rd_of rfl rfl) (by refine ⟨by decide, by decide, rfl, rfl, rfl, ?_⟩; first | rfl | (simp [V.toks, V.tokss, Enc.toks_enc]; done) | simp [V.toks, V.tokss, Enc.toks_enc, tok_memP]) ?_
  refine gz [(2, (.ref (.bx 2) 0 [] (.agg [(ji 0), (.sl .nl (Enc.shp (Int × Int)) 0 [])]))), (3, (.ref (.bx 3) 0 [] (.agg [(ji x_1.1), (Enc.enc (r_2 : List (Int × Int)))])))] ⟨(keep_mut h2 (mut_ref_ne rfl rfl (mut_agg (muts_cons rfl (muts_cons rfl rfl))))), (keep_mut h3 rfl)⟩ ?_
  rintro s ⟨h2, h3⟩
  refine .nsq (.seq (rg (g1 3 (.agg [(ji x_1.1), (Enc.enc (r_2 : List (Int × Int)))]) h3 fun h11 => ?_)))
  refine g_store (.agg [(ji x_1.1), (Enc.enc (r_2 : List (Int × Int)))]) (rd_of h2 rfl) (rd_of h11 rfl) (by refine ⟨by decide, by decide, rfl, rfl, rfl, ?_⟩; first | rfl | (simp [V.toks, V.tokss, Enc.toks_enc]; done) | simp [V.toks, V.tokss, Enc.toks_enc, tok_memP]) ?_
  refine gz [(2, (.ref (.bx 2) 0 [] (.agg [(ji x_1.1), (Enc.enc (r_2 : List (Int × Int)))])))] (keep_mut h2 rfl) ?_
  rintro s h2
  refine .nsq (.ret ?_)
  have hr := Option.some.inj h
  subst hr
  exact rrA (res_cell h2 (by kernel_rfl)) (fin_ret1 (fin_enc (x := ((x_1.1, r_2) : (Int × (List (Int × Int)))))))
end
def e17 (F : Nat) : Ent := ent 17 (fun (x : ((Int × (List (Int × Int))) × Unit)) => w_toGraph F x.1) (fun (r : (Int × (List (Int × Int)))) => (Enc.enc (r : (Int × (List (Int × Int)))))) 0 true []
theorem p17 {F : Nat} {x0 : (Int × (List (Int × Int)))} {r : (Int × (List (Int × Int)))} (h : w_toGraph F x0 = some r) : (e17 F).den [Enc.enc x0] = some (Enc.enc (r : (Int × (List (Int × Int))))) := ent_put (x0, ()) h
theorem o17 {D : Den} {σ : Sig} {F : Nat} (hF : Fits2 Try.prog D σ) (H : H17 D σ F) : (e17 F).Ok Try.prog := by
  refine ok_of (f := 17) (show unk 17 = 17 from rfl) (fun args r h => ?_) ⟨Try.f17, Try.func17, rfl, rfl⟩
  obtain ⟨⟨x0, _⟩, y, rfl, hy, rfl⟩ := da_open h
  exact contract_run hF (by kernel_rfl) Try.func17 rfl c17 (show 1 ≤ Try.f17.ntmps by decide) (t17 H x0 _ rfl hy)
/- loop.example/g01109/spec.l1In -/
def A103_1 : AC := (.seq (.reg [] [(jm 7 0), (jm 8 1), ((jv 9 (.bin .geq (.t 7) (.t 8)))), (jm 10 9), ((jg 11 10 true (.mov (.t 0)))), ((jg 12 10 true (.mov (.t 2)))), ((jg 13 10 true (.bin .leq (.t 11) (.t 12)))), ((jv 14 (.pick (.t 10) (.t 13) (.k (.bool false))))), (jm 6 14)] []) .ret)
def A103 : AC := (.seq (.reg [] [((jv 6 (.mov (.k (.bool false)))))] []) A103_1)
def an103 : List An := []
theorem c103 : cC Try.prog Try.f103.ntmps an103 (Try.f103.body.getD .skip) = some A103 := by kernel_rfl
structure H103 (D : Den) (σ : Sig) (F : Nat) : Prop where
  mk ::
abbrev R103 (r : Bool) : (Nat → V) → Prop := RR Try.prog [.tmp 6] 0 false (Enc.enc (r : Bool))
section
variable {D : Den} {σ : Sig} {F : Nat} {r : Bool}
def s_l1In (F : Nat) (x_1 : Int) (x_2 : Int) (x_3 : Int) : Option Bool :=
  bif decide (x_1 ≥ x_2) then
    some (decide (x_1 ≤ x_3))
  else
    some false
theorem t103 (H : H103 D σ F) (x_1 : Int) (x_2 : Int) (x_3 : Int) (s : Nat → V) (hs : Facts [(0, (ji x_1)), (1, (ji x_2)), (2, (ji x_3))] s) (h : s_l1In F x_1 x_2 x_3 = some r) : Run D σ (R103 r) (.run A103 []) s := by
  unfold s_l1In at h
  obtain ⟨h0, h1, h2⟩ := hs
  refine .seq (rg (g0 (jb false) fun h6 => ?_))
  refine gq (.nsq (.seq (rg (gm h0 fun h7 => gm h1 fun h8 => g2 7 8 (jb (decide (x_1 ≥ x_2))) h7 h8 fun h9 => ?_))))
  refine gm h9 fun h10 => split_on (c := decide (x_1 ≥ x_2)) h (fun hg4 h => ?_) (fun hg4 h => ?_)
  · refine g_yes (h10.trans (congrArg V.bool hg4)) (gm h0 fun h11 => ?_)
    refine g_yes (h10.trans (congrArg V.bool hg4)) (gm h2 fun h12 => ?_)
    refine g_yes (h10.trans (congrArg V.bool hg4)) (g2 11 12 (jb (decide (x_1 ≤ x_3))) h11 h12 fun h13 => ?_)
    refine g2 10 13 (jb (decide (x_1 ≤ x_3))) (h10.trans (congrArg V.bool hg4)) h13 fun h14 => ?_
    refine gm h14 fun h6 => gq (.nsq (.ret ?_))
    have hr := Option.some.inj h
    subst hr
    exact rrA (res_tmp h6) rfl
  refine g_no (h10.trans (congrArg V.bool hg4)) ?_
  refine g_no (h10.trans (congrArg V.bool hg4)) ?_
  refine g_no (h10.trans (congrArg V.bool hg4)) ?_
  refine g2 10 13 (jb false) (h10.trans (congrArg V.bool hg4)) (rfl : (_ : V) = (.tup [])) fun h14 => ?_
  refine gm h14 fun h6 => gq (.nsq (.ret ?_))
  have hr := Option.some.inj h
  subst hr
  exact rrA (res_tmp h6) rfl
end
def e103 (F : Nat) : Ent := ent 103 (fun (x : (Int × Int × Int × Unit)) => s_l1In F x.1 x.2.1 x.2.2.1) (fun (r : Bool) => (Enc.enc (r : Bool))) 0 false []
theorem p103 {F : Nat} {x0 : Int} {x1 : Int} {x2 : Int} {r : Bool} (h : s_l1In F x0 x1 x2 = some r) : (e103 F).den [Enc.enc x0, Enc.enc x1, Enc.enc x2] = some (Enc.enc (r : Bool)) := ent_put (x0, x1, x2, ()) h
theorem o103 {D : Den} {σ : Sig} {F : Nat} (hF : Fits2 Try.prog D σ) (H : H103 D σ F) : (e103 F).Ok Try.prog := by
  refine ok_of (f := 103) (show unk 103 = 103 from rfl) (fun args r h => ?_) ⟨Try.f103, Try.func103, rfl, rfl⟩
  obtain ⟨⟨x0, x1, x2, _⟩, y, rfl, hy, rfl⟩ := da_open h
  exact contract_run hF (by kernel_rfl) Try.func103 rfl c103 (show 3 ≤ Try.f103.ntmps by decide) (t103 H x0 x1 x2 _ ⟨rfl, rfl, rfl⟩ hy)
/- loop.example/g01109/spec.l2Before -/
def A130_1 : AC := (.seq (.reg [] [((jv 5 (.idxA (.t 2) (jn 0) 2 1))), ((jv 6 (.load .s (.t 5)))), ((jv 7 (.idxA (.t 3) (jn 0) 2 1))), ((jv 8 (.load .s (.t 7)))), ((jv 9 (.bin .lss (.t 6) (.t 8)))), (jm 10 9), ((jg 11 10 false (.idxA (.t 2) (jn 0) 2 1))), ((jg 12 10 false (.load .s (.t 11)))), ((jg 13 10 false (.idxA (.t 3) (jn 0) 2 1))), ((jg 14 10 false (.load .s (.t 13)))), ((jg 15 10 false (.bin .eql (.t 12) (.t 14)))), ((jg 16 10 false (.mov (.t 15)))), ((jg 17 16 true (.idxA (.t 2) (jn 1) 2 1))), ((jg 18 16 true (.load .s (.t 17)))), ((jg 19 16 true (.idxA (.t 3) (jn 1) 2 1))), ((jg 20 16 true (.load .s (.t 19)))), ((jg 21 16 true (.bin .lss (.t 18) (.t 20)))), ((jg 22 10 false (.pick (.t 16) (.t 21) (.k (.bool false))))), ((jv 23 (.pick (.t 10) (.k (.bool true)) (.t 22)))), (jm 4 23)] []) .ret)
def A130 : AC := (.seq (.reg [.clr [2, 3]] [(.mk (some 2) none false (.box (.t 0))), (.mk (some 3) none false (.box (.t 1))), ((jv 4 (.mov (.k (.bool false)))))] []) A130_1)
def an130 : List An := [{ id := 0, pre := [.clr [2, 3]], ep := [], lin := [], sp := [] }]
theorem c130 : cC Try.prog Try.f130.ntmps an130 (Try.f130.body.getD .skip) = some A130 := by kernel_rfl
structure H130 (D : Den) (σ : Sig) (F : Nat) : Prop where
  mk ::
abbrev R130 (r : Bool) : (Nat → V) → Prop := RR Try.prog [.tmp 4] 0 false (Enc.enc (r : Bool))
section
variable {D : Den} {σ : Sig} {F : Nat} {r : Bool}
def s_l2Before (F : Nat) (x_1 : (Int × Int)) (x_2 : (Int × Int)) : Option Bool :=
  bif decide (x_1.1 < x_2.1) then
    some true
  else
    bif (x_1.1 == x_2.1) then
      some (decide (x_1.2 < x_2.2))
    else
      some false
theorem t130 (H : H130 D σ F) (x_1 : (Int × Int)) (x_2 : (Int × Int)) (s : Nat → V) (hs : Facts [(0, (.agg [(ji x_1.1), (ji x_1.2)])), (1, (.agg [(ji x_2.1), (ji x_2.2)]))] s) (h : s_l2Before F x_1 x_2 = some r) : Run D σ (R130 r) (.run A130 []) s := by
  unfold s_l2Before at h
  obtain ⟨h0, h1⟩ := hs
  refine .seq (run_reg ?_)
  refine e_clr ?_
  refine ez [(0, _), (1, _), (2, _), (3, _)] ⟨(keep_clear (pk := [2, 3]) h0 rfl (map_agg (maps_cons mi (maps_cons mi maps_nil)))), (keep_clear (pk := [2, 3]) h1 rfl (map_agg (maps_cons mi (maps_cons mi maps_nil)))), (gone_clear (pk := [2, 3]) (t := 2) rfl), (gone_clear (pk := [2, 3]) (t := 3) rfl)⟩ ?_
  rintro s ⟨h0, h1, h2, h3⟩
  refine g_box (.agg [(ji x_1.1), (ji x_1.2)]) (rd_of h0 rfl) h2 rfl ?_
  refine g_box (.agg [(ji x_2.1), (ji x_2.2)]) (rd_of h1 rfl) h3 rfl ?_
  refine g0 (jb false) fun h4 => ?_
  refine gq (.nsq (.seq (rg (g1 2 (.ref (.bx 2) 0 [0] (ji x_1.1)) (rfl : (_ : V) = (.ref (.bx 2) 0 [] (.agg [(ji x_1.1), (ji x_1.2)]))) fun h5 => ?_))))
  refine g1 5 (ji x_1.1) h5 fun h6 => ?_
  refine g1 3 (.ref (.bx 3) 0 [0] (ji x_2.1)) (rfl : (_ : V) = (.ref (.bx 3) 0 [] (.agg [(ji x_2.1), (ji x_2.2)]))) fun h7 => ?_
  refine g1 7 (ji x_2.1) h7 fun h8 => ?_
  refine g2 6 8 (jb (decide (x_1.1 < x_2.1))) h6 h8 fun h9 => ?_
  refine gm h9 fun h10 => split_on (c := decide (x_1.1 < x_2.1)) h (fun hg6 h => ?_) (fun hg6 h => ?_)
  · refine g_no (h10.trans (congrArg V.bool hg6)) ?_
    refine g_no (h10.trans (congrArg V.bool hg6)) ?_
    refine g_no (h10.trans (congrArg V.bool hg6)) ?_
    refine g_no (h10.trans (congrArg V.bool hg6)) ?_
    refine g_no (h10.trans (congrArg V.bool hg6)) ?_
    refine g_no (h10.trans (congrArg V.bool hg6)) ?_
    refine g_skip rfl ?_
    refine g_skip rfl ?_
    refine g_skip rfl ?_
    refine g_skip rfl ?_
    refine g_skip rfl ?_
    refine g_no (h10.trans (congrArg V.bool hg6)) ?_
    refine g2 10 22 (jb true) (h10.trans (congrArg V.bool hg6)) (rfl : (_ : V) = (.tup [])) fun h23 => ?_
    refine gm h23 fun h4 => gq (.nsq (.ret ?_))
    have hr := Option.some.inj h
    subst hr
    exact rrA (res_tmp h4) rfl
  refine g_yes (h10.trans (congrArg V.bool hg6)) (g1 2 (.ref (.bx 2) 0 [0] (ji x_1.1)) (rfl : (_ : V) = (.ref (.bx 2) 0 [] (.agg [(ji x_1.1), (ji x_1.2)]))) fun h11 => ?_)
  refine g_yes (h10.trans (congrArg V.bool hg6)) (g1 11 (ji x_1.1) h11 fun h12 => ?_)
  refine g_yes (h10.trans (congrArg V.bool hg6)) (g1 3 (.ref (.bx 3) 0 [0] (ji x_2.1)) (rfl : (_ : V) = (.ref (.bx 3) 0 [] (.agg [(ji x_2.1), (ji x_2.2)]))) fun h13 => ?_)
  refine g_yes (h10.trans (congrArg V.bool hg6)) (g1 13 (ji x_2.1) h13 fun h14 => ?_)
  refine g_yes (h10.trans (congrArg V.bool hg6)) (g2 12 14 (jb (x_1.1 == x_2.1)) h12 h14 fun h15 => ?_)
  refine g_yes (h10.trans (congrArg V.bool hg6)) (gm h15 fun h16 => ?_)
  refine split_on (c := (x_1.1 == x_2.1)) h (fun hg12 h => ?_) (fun hg12 h => ?_)
  · refine g_yes (h16.trans (congrArg V.bool hg12)) (g1 2 (.ref (.bx 2) 0 [1] (ji x_1.2)) (rfl : (_ : V) = (.ref (.bx 2) 0 [] (.agg [(ji x_1.1), (ji x_1.2)]))) fun h17 => ?_)
    refine g_yes (h16.trans (congrArg V.bool hg12)) (g1 17 (ji x_1.2) h17 fun h18 => ?_)
    refine g_yes (h16.trans (congrArg V.bool hg12)) (g1 3 (.ref (.bx 3) 0 [1] (ji x_2.2)) (rfl : (_ : V) = (.ref (.bx 3) 0 [] (.agg [(ji x_2.1), (ji x_2.2)]))) fun h19 => ?_)
    refine g_yes (h16.trans (congrArg V.bool hg12)) (g1 19 (ji x_2.2) h19 fun h20 => ?_)
    refine g_yes (h16.trans (congrArg V.bool hg12)) (g2 18 20 (jb (decide (x_1.2 < x_2.2))) h18 h20 fun h21 => ?_)
    refine g_yes (h10.trans (congrArg V.bool hg6)) (g2 16 21 (jb (decide (x_1.2 < x_2.2))) (h16.trans (congrArg V.bool hg12)) h21 fun h22 => ?_)
    refine g2 10 22 (jb (decide (x_1.2 < x_2.2))) (h10.trans (congrArg V.bool hg6)) h22 fun h23 => ?_
    refine gm h23 fun h4 => gq (.nsq (.ret ?_))
    have hr := Option.some.inj h
    subst hr
    exact rrA (res_tmp h4) rfl
  refine g_no (h16.trans (congrArg V.bool hg12)) ?_
  refine g_no (h16.trans (congrArg V.bool hg12)) ?_
  refine g_no (h16.trans (congrArg V.bool hg12)) ?_
  refine g_no (h16.trans (congrArg V.bool hg12)) ?_
  refine g_no (h16.trans (congrArg V.bool hg12)) ?_
  refine g_yes (h10.trans (congrArg V.bool hg6)) (g2 16 21 (jb false) (h16.trans (congrArg V.bool hg12)) (rfl : (_ : V) = (.tup [])) fun h22 => ?_)
  refine g2 10 22 (jb false) (h10.trans (congrArg V.bool hg6)) h22 fun h23 => ?_
  refine gm h23 fun h4 => gq (.nsq (.ret ?_))
  have hr := Option.some.inj h
  subst hr
  exact rrA (res_tmp h4) rfl
end
def e130 (F : Nat) : Ent := ent 130 (fun (x : ((Int × Int) × (Int × Int) × Unit)) => s_l2Before F x.1 x.2.1) (fun (r : Bool) => (Enc.enc (r : Bool))) 0 false []
theorem p130 {F : Nat} {x0 : (Int × Int)} {x1 : (Int × Int)} {r : Bool} (h : s_l2Before F x0 x1 = some r) : (e130 F).den [Enc.enc x0, Enc.enc x1] = some (Enc.enc (r : Bool)) := ent_put (x0, x1, ()) h
theorem o130 {D : Den} {σ : Sig} {F : Nat} (hF : Fits2 Try.prog D σ) (H : H130 D σ F) : (e130 F).Ok Try.prog := by
  refine ok_of (f := 130) (show unk 130 = 130 from rfl) (fun args r h => ?_) ⟨Try.f130, Try.func130, rfl, rfl⟩
  obtain ⟨⟨x0, x1, _⟩, y, rfl, hy, rfl⟩ := da_open h
  exact contract_run hF (by kernel_rfl) Try.func130 rfl c130 (show 2 ≤ Try.f130.ntmps by decide) (t130 H x0 x1 _ ⟨rfl, rfl⟩ hy)
/- loop.example/g01109/spec.l2Good -/
def A72_2 : AC := (.cond (.t 9) .skip (.exit 0))
def A72_5 : AC := (.cond (.t 54) (.seq (.reg [] [((jv 2 (.mov (.k (.bool false)))))] []) .ret) .skip)
def A72_4 : AC := (.seq (.reg [] [((jv 17 (.idxA (.t 4) (jn 0) 2 1))), ((jv 18 (.load .s (.t 17)))), ((jv 19 (.fld (.t 1) 0 0))), ((jv 20 (.load .s (.t 19)))), ((jv 21 (.bin .sub (.t 20) (jn 1)))), (.mk (some 22) none false (.call (.k (.fn 103 [] [])) [(.t 18), (jn 0), (.t 21)])), ((jv 23 (.un .not (.t 22)))), (jm 24 23), ((jg 25 24 false (.idxA (.t 4) (jn 1) 2 1))), ((jg 26 24 false (.load .s (.t 25)))), ((jg 27 24 false (.fld (.t 1) 0 0))), ((jg 28 24 false (.load .s (.t 27)))), ((jg 29 24 false (.bin .sub (.t 28) (jn 1)))), (.mk (some 30) (some (24, false)) false (.call (.k (.fn 103 [] [])) [(.t 26), (jn 0), (.t 29)])), ((jg 31 24 false (.un .not (.t 30)))), ((jv 32 (.pick (.t 24) (.k (.bool true)) (.t 31)))), (jm 33 32), ((jg 34 33 false (.idxA (.t 4) (jn 0) 2 1))), ((jg 35 33 false (.load .s (.t 34)))), ((jg 36 33 false (.idxA (.t 4) (jn 1) 2 1))), ((jg 37 33 false (.load .s (.t 36)))), ((jg 38 33 false (.bin .geq (.t 35) (.t 37)))), ((jv 39 (.pick (.t 33) (.k (.bool true)) (.t 38)))), (jm 40 39), ((jg 41 40 false (.mov (.t 3)))), ((jg 42 40 false (.bin .gtr (.t 41) (jn 0)))), ((jg 43 40 false (.mov (.t 42)))), ((jg 44 43 true (.fld (.t 1) 1 1))), ((jg 45 43 true (.load .p (.t 44)))), ((jg 46 43 true (.mov (.t 3)))), ((jg 47 43 true (.bin .sub (.t 46) (jn 1)))), ((jg 48 43 true (.idx (.t 45) (.t 47) 2))), ((jg 49 43 true (.load (.ag [.s, .s]) (.t 48)))), ((jg 50 43 true (.load (.ag [.s, .s]) (.t 4)))), (.mk (some 51) (some (43, true)) false (.call (.k (.fn 130 [] [])) [(.t 49), (.t 50)])), ((jg 52 43 true (.un .not (.t 51)))), ((jg 53 40 false (.pick (.t 43) (.t 52) (.k (.bool false))))), ((jv 54 (.pick (.t 40) (.k (.bool true)) (.t 53))))] []) A72_5)
def A72_6 : AC := (.reg [] [(jm 10 3), ((jv 11 (.bin .add (.t 10) (jn 1)))), (jm 3 11)] [])
def A72_3 : AC := (.seq (.block 1 (.seq (.reg [.clr [4]] [((jv 12 (.fld (.t 1) 1 1))), ((jv 13 (.load .p (.t 12)))), (jm 14 3), ((jv 15 (.idx (.t 13) (.t 14) 2))), ((jv 16 (.load (.ag [.s, .s]) (.t 15)))), (.mk (some 4) none false (.alloc (.agg [(.int .i64 (.ofNat 0)), (.int .i64 (.ofNat 0))]))), (.mk none none false (.store (.ag [.s, .s]) (.t 4) (.t 16)))] []) A72_4)) A72_6)
def A72_1 : AC := (.seq (.seq (.reg [] [(jm 5 3), ((jv 6 (.fld (.t 1) 1 1))), ((jv 7 (.load .p (.t 6)))), ((jv 8 (.len (.t 7)))), ((jv 9 (.bin .lss (.t 5) (.t 8))))] []) A72_2) A72_3)
def A72_7 : AC := (.seq (.reg [] [((jv 55 (.fld (.t 1) 0 0))), ((jv 56 (.load .s (.t 55)))), (.mk (some 57) none false (.call (.k (.fn 103 [] [])) [(.t 56), (jn 0), (jn 8)])), (jm 2 57)] []) .ret)
def A72_9 : AC := (.block 0 (.loop A72_1))
def A72_8 : AC := (.seq (.seq (.reg [] [((jv 3 (.mov (jn 0))))] []) A72_9) A72_7)
def A72 : AC := (.seq (.reg [.clr [1]] [(.mk (some 1) none false (.box (.t 0))), ((jv 2 (.mov (.k (.bool false)))))] []) A72_8)
def an72 : List An := [{ id := 0, pre := [.clr [1]], ep := [], lin := [], sp := [] }, { id := 4, pre := [.clr [4]], ep := [], lin := [], sp := [] }]
theorem c72 : cC Try.prog Try.f72.ntmps an72 (Try.f72.body.getD .skip) = some A72 := by kernel_rfl
structure H72 (D : Den) (σ : Sig) (F : Nat) : Prop where
  c103 : ∀ (x0 : Int) (x1 : Int) (x2 : Int) r, s_l1In F x0 x1 x2 = some r → D 103 [Enc.enc x0, Enc.enc x1, Enc.enc x2] = some (Enc.enc (r : Bool))
  g103 : σ 103 = some (0, false)
  c130 : ∀ (x0 : (Int × Int)) (x1 : (Int × Int)) r, s_l2Before F x0 x1 = some r → D 130 [Enc.enc x0, Enc.enc x1] = some (Enc.enc (r : Bool))
  g130 : σ 130 = some (0, false)
abbrev R72 (r : Bool) : (Nat → V) → Prop := RR Try.prog [.tmp 2] 0 false (Enc.enc (r : Bool))
section
variable {D : Den} {σ : Sig} {F : Nat} {r : Bool}
def s_l2Good_j1 (F : Nat) (x_1 : (Int × (List (Int × Int)))) (x_12 : Int) (c1 : Int → Option Bool) (x_28 : Bool) : Option Bool :=
  bif x_28 then
    some false
  else
    c1 (w64 (x_12 + 1))
theorem t_f72_j1 (H : H72 D σ F) (x_1 : (Int × (List (Int × Int)))) (x_12 : Int) (c1 : Int → Option Bool) (Hc1 : ∀ (x_12 : Int) (s : Nat → V), Facts [(1, (.ref (.bx 1) 0 [] (.agg [(ji x_1.1), (Enc.enc (x_1.2 : List (Int × Int)))]))), (2, (jb false)), (3, (ji x_12))] s → c1 x_12 = some r → Run D σ (R72 r) (.run A72_1 [.lp A72_1, .bk 0, .sq A72_7]) s) (x_28 : Bool) (s : Nat → V) (hs : Facts [(1, (.ref (.bx 1) 0 [] (.agg [(ji x_1.1), (Enc.enc (x_1.2 : List (Int × Int)))]))), (2, (jb false)), (3, (ji x_12)), (54, (jb x_28))] s) (h : s_l2Good_j1 F x_1 x_12 c1 x_28 = some r) : Run D σ (R72 r) (.nrm [.sq A72_5, .bk 1, .sq A72_6, .lp A72_1, .bk 0, .sq A72_7]) s := by
  unfold s_l2Good_j1 at h
  obtain ⟨h1, h2, h3, h54⟩ := hs
  refine .nsq (run_cond (t := x_28) h54 h (fun h => ?_) (fun h => ?_))
  · refine .seq (rg (g0 (jb false) fun h2 => ?_))
    refine gq (.nsq (.ret ?_))
    have hr := Option.some.inj h
    subst hr
    exact rrA (res_tmp h2) rfl
  refine .skip (.nbk (.nsq (rg (gm h3 fun h10 => g1 10 (ji (w64 (x_12 + 1))) h10 fun h11 => ?_))))
  refine gm h11 fun h3 => gq (.nlp ?_)
  exact Hc1 (w64 (x_12 + 1)) _ ⟨h1, h2, h3⟩ h
def s_l2Good_l1 (F : Nat) (x_1 : (Int × (List (Int × Int))))  : Nat → Int → Option Bool
  | 0, _ => none
  | k + 1, x_12 =>
    bif decide (x_12 < (x_1.2.length : Int)) then
      (idx x_1.2 x_12).bind fun e_23 =>
      (s_l1In F e_23.1 0 (w64 (x_1.1 - 1))).bind fun r_29 =>
      bif (!r_29) then
        s_l2Good_j1 F x_1 x_12 (s_l2Good_l1 F x_1 k) true
      else
        (s_l1In F e_23.2 0 (w64 (x_1.1 - 1))).bind fun r_30 =>
        bif (!r_30) then
          s_l2Good_j1 F x_1 x_12 (s_l2Good_l1 F x_1 k) true
        else
          bif decide (e_23.1 ≥ e_23.2) then
            s_l2Good_j1 F x_1 x_12 (s_l2Good_l1 F x_1 k) true
          else
            bif decide (x_12 > 0) then
              (idx x_1.2 (w64 (x_12 - 1))).bind fun e_31 =>
              (s_l2Before F e_31 e_23).bind fun r_32 =>
              s_l2Good_j1 F x_1 x_12 (s_l2Good_l1 F x_1 k) (!r_32)
            else
              s_l2Good_j1 F x_1 x_12 (s_l2Good_l1 F x_1 k) false
    else
      (s_l1In F x_1.1 0 8).bind fun r_33 =>
      some r_33
theorem t_f72_l1 (H : H72 D σ F) (x_1 : (Int × (List (Int × Int))))  : ∀ (k : Nat) (x_12 : Int) (s : Nat → V), Facts [(1, (.ref (.bx 1) 0 [] (.agg [(ji x_1.1), (Enc.enc (x_1.2 : List (Int × Int)))]))), (2, (jb false)), (3, (ji x_12))] s → s_l2Good_l1 F x_1 k x_12 = some r → Run D σ (R72 r) (.run A72_1 [.lp A72_1, .bk 0, .sq A72_7]) s := by
  intro k
  induction k with
  | zero => intro x_12 s _ h; exact nomatch (h : (none : Option _) = some r)
  | succ k ih =>
    intro x_12 s hs h
    rw [s_l2Good_l1] at h
    obtain ⟨h1, h2, h3⟩ := hs
    refine .seq (.seq (rg (gm h3 fun h5 => g1 1 (.ref (.bx 1) 0 [1] (Enc.enc (x_1.2 : List (Int × Int)))) h1 fun h6 => ?_)))
    refine g1 6 (Enc.enc (x_1.2 : List (Int × Int))) h6 fun h7 => ?_
    refine gv (ji (x_1.2.length : Int)) (ev_len (xs := x_1.2) h7) fun h8 => ?_
    refine g2 5 8 (jb (decide (x_12 < (x_1.2.length : Int)))) h5 h8 fun h9 => ?_
    refine gq (.nsq (run_cond (t := decide (x_12 < (x_1.2.length : Int))) h9 h (fun h => ?_) (fun h => ?_)))
    · refine .skip (.nsq (.seq (.block (.seq (run_reg ?_)))))
      refine e_clr ?_
      refine ez [(1, _), (2, _), (3, _), (4, _)] ⟨(keep_clear (pk := [4]) h1 rfl (map_bx rfl (map_agg (maps_cons mi (maps_cons me maps_nil))))), (keep_clear (pk := [4]) h2 rfl mb), (keep_clear (pk := [4]) h3 rfl mi), (gone_clear (pk := [4]) (t := 4) rfl)⟩ ?_
      rintro s ⟨h1, h2, h3, h4⟩
      refine g1 1 (.ref (.bx 1) 0 [1] (Enc.enc (x_1.2 : List (Int × Int)))) h1 fun h12 => ?_
      refine g1 12 (Enc.enc (x_1.2 : List (Int × Int))) h12 fun h13 => ?_
      refine gm h3 fun h14 => ?_
      obtain ⟨e_23, E_e_23, h⟩ := bind_some h
      refine gv (.ref .sh 0 [] (.agg [(ji e_23.1), (ji e_23.2)])) (ev_idx (t := .sh) (lo := 0) (xs := x_1.2) h13 h14 E_e_23 rfl rfl) fun h15 => ?_
      refine g1 15 (.agg [(ji e_23.1), (ji e_23.2)]) h15 fun h16 => ?_
      refine g_alloc h4 ?_
      refine g_store (.agg [(ji e_23.1), (ji e_23.2)]) (rd_of rfl rfl) (rd_of h16 rfl) (by refine ⟨by decide, by decide, rfl, rfl, rfl, ?_⟩; first | rfl | (simp [V.toks, V.tokss, Enc.toks_enc]; done) | simp [V.toks, V.tokss, Enc.toks_enc, tok_memP]) ?_
      refine gz [(1, (.ref (.bx 1) 0 [] (.agg [(ji x_1.1), (Enc.enc (x_1.2 : List (Int × Int)))]))), (2, (jb false)), (3, (ji x_12)), (4, (.ref (.bx 4) 0 [] (.agg [(ji e_23.1), (ji e_23.2)])))] ⟨(keep_mut h1 (mut_ref_ne rfl rfl (mut_agg (muts_cons rfl (muts_cons (Enc.mut_enc _ _ _ _ (x_1.2 : List (Int × Int))) rfl))))), (keep_mut h2 rfl), (keep_mut h3 rfl), (keep_mut rfl rfl)⟩ ?_
      rintro s ⟨h1, h2, h3, h4⟩
      refine .nsq (.seq (rg (g1 4 (.ref (.bx 4) 0 [0] (ji e_23.1)) h4 fun h17 => ?_)))
      refine g1 17 (ji e_23.1) h17 fun h18 => ?_
      refine g1 1 (.ref (.bx 1) 0 [0] (ji x_1.1)) h1 fun h19 => ?_
      refine g1 19 (ji x_1.1) h19 fun h20 => ?_
      refine g1 20 (ji (w64 (x_1.1 - 1))) h20 fun h21 => ?_
      obtain ⟨r_29, E_r_29, h⟩ := bind_some h
      refine g_call (m := 0) (al := false) (r := (Enc.enc (r_29 : Bool))) [Enc.enc (e_23.1 : Int), Enc.enc (0 : Int), Enc.enc (w64 (x_1.1 - 1) : Int)] (ta_cons (v := (ji e_23.1)) h18 rfl rfl (ta_cons (v := (ji 0)) rfl rfl rfl (ta_cons (v := (ji (w64 (x_1.1 - 1)))) h21 rfl rfl ta_nil))) (H.c103 _ _ _ _ E_r_29) H.g103 rfl rfl rfl rfl ?_
      refine g1 22 (jb (!r_29)) (rfl : (_ : V) = (jb r_29)) fun h23 => ?_
      refine gm h23 fun h24 => split_on (c := (!r_29)) h (fun hg8 h => ?_) (fun hg8 h => ?_)
      · refine g_no (h24.trans (congrArg V.bool hg8)) ?_
        refine g_no (h24.trans (congrArg V.bool hg8)) ?_
        refine g_no (h24.trans (congrArg V.bool hg8)) ?_
        refine g_no (h24.trans (congrArg V.bool hg8)) ?_
        refine g_no (h24.trans (congrArg V.bool hg8)) ?_
        refine g_no (h24.trans (congrArg V.bool hg8)) ?_
        refine g_no (h24.trans (congrArg V.bool hg8)) ?_
        refine g2 24 31 (jb true) (h24.trans (congrArg V.bool hg8)) (rfl : (_ : V) = (.tup [])) fun h32 => ?_
        refine gm h32 fun h33 => g_no h33 ?_
        refine g_no h33 ?_
        refine g_no h33 ?_
        refine g_no h33 ?_
        refine g_no h33 ?_
        refine g2 33 38 (jb true) h33 (rfl : (_ : V) = (.tup [])) fun h39 => ?_
        refine gm h39 fun h40 => g_no h40 ?_
        refine g_no h40 ?_
        refine g_no h40 ?_
        refine g_skip rfl ?_
        refine g_skip rfl ?_
        refine g_skip rfl ?_
        refine g_skip rfl ?_
        refine g_skip rfl ?_
        refine g_skip rfl ?_
        refine g_skip rfl ?_
        refine g_skip rfl ?_
        refine g_skip rfl ?_
        refine g_no h40 ?_
        refine g2 40 53 (jb true) h40 (rfl : (_ : V) = (.tup [])) fun h54 => ?_
        refine gz [(1, _), (2, _), (3, _), (54, _)] ⟨h1, h2, h3, h54⟩ ?_
        rintro s ⟨h1, h2, h3, h54⟩
        exact t_f72_j1 H x_1 x_12 (s_l2Good_l1 F x_1 k) ih true _ ⟨h1, h2, h3, h54⟩ h
      refine g_yes (h24.trans (congrArg V.bool hg8)) (g1 4 (.ref (.bx 4) 0 [1] (ji e_23.2)) h4 fun h25 => ?_)
      refine g_yes (h24.trans (congrArg V.bool hg8)) (g1 25 (ji e_23.2) h25 fun h26 => ?_)
      refine g_yes (h24.trans (congrArg V.bool hg8)) (g1 1 (.ref (.bx 1) 0 [0] (ji x_1.1)) h1 fun h27 => ?_)
      refine g_yes (h24.trans (congrArg V.bool hg8)) (g1 27 (ji x_1.1) h27 fun h28 => ?_)
      refine g_yes (h24.trans (congrArg V.bool hg8)) (g1 28 (ji (w64 (x_1.1 - 1))) h28 fun h29 => ?_)
      obtain ⟨r_30, E_r_30, h⟩ := bind_some h
      refine g_yes (h24.trans (congrArg V.bool hg8)) (g_call (m := 0) (al := false) (r := (Enc.enc (r_30 : Bool))) [Enc.enc (e_23.2 : Int), Enc.enc (0 : Int), Enc.enc (w64 (x_1.1 - 1) : Int)] (ta_cons (v := (ji e_23.2)) h26 rfl rfl (ta_cons (v := (ji 0)) rfl rfl rfl (ta_cons (v := (ji (w64 (x_1.1 - 1)))) h29 rfl rfl ta_nil))) (H.c103 _ _ _ _ E_r_30) H.g103 rfl rfl rfl rfl ?_)
      refine g_yes (h24.trans (congrArg V.bool hg8)) (g1 30 (jb (!r_30)) (rfl : (_ : V) = (jb r_30)) fun h31 => ?_)
      refine g2 24 31 (jb (!r_30)) (h24.trans (congrArg V.bool hg8)) h31 fun h32 => ?_
      refine gm h32 fun h33 => split_on (c := (!r_30)) h (fun hg17 h => ?_) (fun hg17 h => ?_)
      · refine g_no (h33.trans (congrArg V.bool hg17)) ?_
        refine g_no (h33.trans (congrArg V.bool hg17)) ?_
        refine g_no (h33.trans (congrArg V.bool hg17)) ?_
        refine g_no (h33.trans (congrArg V.bool hg17)) ?_
        refine g_no (h33.trans (congrArg V.bool hg17)) ?_
        refine g2 33 38 (jb true) (h33.trans (congrArg V.bool hg17)) (rfl : (_ : V) = (.tup [])) fun h39 => ?_
        refine gm h39 fun h40 => g_no h40 ?_
        refine g_no h40 ?_
        refine g_no h40 ?_
        refine g_skip rfl ?_
        refine g_skip rfl ?_
        refine g_skip rfl ?_
        refine g_skip rfl ?_
        refine g_skip rfl ?_
        refine g_skip rfl ?_
        refine g_skip rfl ?_
        refine g_skip rfl ?_
        refine g_skip rfl ?_
        refine g_no h40 ?_
        refine g2 40 53 (jb true) h40 (rfl : (_ : V) = (.tup [])) fun h54 => ?_
        refine gz [(1, _), (2, _), (3, _), (54, _)] ⟨h1, h2, h3, h54⟩ ?_
        rintro s ⟨h1, h2, h3, h54⟩
        exact t_f72_j1 H x_1 x_12 (s_l2Good_l1 F x_1 k) ih true _ ⟨h1, h2, h3, h54⟩ h
      refine g_yes (h33.trans (congrArg V.bool hg17)) (g1 4 (.ref (.bx 4) 0 [0] (ji e_23.1)) h4 fun h34 => ?_)
      refine g_yes (h33.trans (congrArg V.bool hg17)) (g1 34 (ji e_23.1) h34 fun h35 => ?_)
      refine g_yes (h33.trans (congrArg V.bool hg17)) (g1 4 (.ref (.bx 4) 0 [1] (ji e_23.2)) h4 fun h36 => ?_)
      refine g_yes (h33.trans (congrArg V.bool hg17)) (g1 36 (ji e_23.2) h36 fun h37 => ?_)
      refine g_yes (h33.trans (congrArg V.bool hg17)) (g2 35 37 (jb (decide (e_23.1 ≥ e_23.2))) h35 h37 fun h38 => ?_)
      refine g2 33 38 (jb (decide (e_23.1 ≥ e_23.2))) (h33.trans (congrArg V.bool hg17)) h38 fun h39 => ?_
      refine gm h39 fun h40 => split_on (c := decide (e_23.1 ≥ e_23.2)) h (fun hg24 h => ?_) (fun hg24 h => ?_)
      · refine g_no (h40.trans (congrArg V.bool hg24)) ?_
        refine g_no (h40.trans (congrArg V.bool hg24)) ?_
        refine g_no (h40.trans (congrArg V.bool hg24)) ?_
        refine g_skip rfl ?_
        refine g_skip rfl ?_
        refine g_skip rfl ?_
        refine g_skip rfl ?_
        refine g_skip rfl ?_
        refine g_skip rfl ?_
        refine g_skip rfl ?_
        refine g_skip rfl ?_
        refine g_skip rfl ?_
        refine g_no (h40.trans (congrArg V.bool hg24)) ?_
        refine g2 40 53 (jb true) (h40.trans (congrArg V.bool hg24)) (rfl : (_ : V) = (.tup [])) fun h54 => ?_
        refine gz [(1, _), (2, _), (3, _), (54, _)] ⟨h1, h2, h3, h54⟩ ?_
        rintro s ⟨h1, h2, h3, h54⟩
        exact t_f72_j1 H x_1 x_12 (s_l2Good_l1 F x_1 k) ih true _ ⟨h1, h2, h3, h54⟩ h
      refine g_yes (h40.trans (congrArg V.bool hg24)) (gm h3 fun h41 => ?_)
      refine g_yes (h40.trans (congrArg V.bool hg24)) (g1 41 (jb (decide (x_12 > 0))) h41 fun h42 => ?_)
      refine g_yes (h40.trans (congrArg V.bool hg24)) (gm h42 fun h43 => ?_)
      refine split_on (c := decide (x_12 > 0)) h (fun hg27 h => ?_) (fun hg27 h => ?_)
      · refine g_yes (h43.trans (congrArg V.bool hg27)) (g1 1 (.ref (.bx 1) 0 [1] (Enc.enc (x_1.2 : List (Int × Int)))) h1 fun h44 => ?_)
        refine g_yes (h43.trans (congrArg V.bool hg27)) (g1 44 (Enc.enc (x_1.2 : List (Int × Int))) h44 fun h45 => ?_)
        refine g_yes (h43.trans (congrArg V.bool hg27)) (gm h3 fun h46 => ?_)
        refine g_yes (h43.trans (congrArg V.bool hg27)) (g1 46 (ji (w64 (x_12 - 1))) h46 fun h47 => ?_)
        obtain ⟨e_31, E_e_31, h⟩ := bind_some h
        refine g_yes (h43.trans (congrArg V.bool hg27)) (gv (.ref .sh 0 [] (.agg [(ji e_31.1), (ji e_31.2)])) (ev_idx (t := .sh) (lo := 0) (xs := x_1.2) h45 h47 E_e_31 rfl rfl) fun h48 => ?_)
        refine g_yes (h43.trans (congrArg V.bool hg27)) (g1 48 (.agg [(ji e_31.1), (ji e_31.2)]) h48 fun h49 => ?_)
        refine g_yes (h43.trans (congrArg V.bool hg27)) (g1 4 (.agg [(ji e_23.1), (ji e_23.2)]) h4 fun h50 => ?_)
        obtain ⟨r_32, E_r_32, h⟩ := bind_some h
        refine g_yes (h43.trans (congrArg V.bool hg27)) (g_call (m := 0) (al := false) (r := (Enc.enc (r_32 : Bool))) [Enc.enc (e_31 : (Int × Int)), Enc.enc (e_23 : (Int × Int))] (ta_cons (v := (.agg [(ji e_31.1), (ji e_31.2)])) h49 rfl (Enc.erase_enc (e_31 : (Int × Int))) (ta_cons (v := (.agg [(ji e_23.1), (ji e_23.2)])) h50 rfl (Enc.erase_enc (e_23 : (Int × Int))) ta_nil)) (H.c130 _ _ _ E_r_32) H.g130 rfl rfl rfl rfl ?_)
        refine g_yes (h43.trans (congrArg V.bool hg27)) (g1 51 (jb (!r_32)) (rfl : (_ : V) = (jb r_32)) fun h52 => ?_)
        refine g_yes (h40.trans (congrArg V.bool hg24)) (g2 43 52 (jb (!r_32)) (h43.trans (congrArg V.bool hg27)) h52 fun h53 => ?_)
        refine g2 40 53 (jb (!r_32)) (h40.trans (congrArg V.bool hg24)) h53 fun h54 => ?_
        refine gz [(1, _), (2, _), (3, _), (54, _)] ⟨h1, h2, h3, h54⟩ ?_
        rintro s ⟨h1, h2, h3, h54⟩
        exact t_f72_j1 H x_1 x_12 (s_l2Good_l1 F x_1 k) ih (!r_32) _ ⟨h1, h2, h3, h54⟩ h
      refine g_no (h43.trans (congrArg V.bool hg27)) ?_
      refine g_no (h43.trans (congrArg V.bool hg27)) ?_
      refine g_no (h43.trans (congrArg V.bool hg27)) ?_
      refine g_no (h43.trans (congrArg V.bool hg27)) ?_
      refine g_no (h43.trans (congrArg V.bool hg27)) ?_
      refine g_no (h43.trans (congrArg V.bool hg27)) ?_
      refine g_no (h43.trans (congrArg V.bool hg27)) ?_
      refine g_no (h43.trans (congrArg V.bool hg27)) ?_
      refine g_no (h43.trans (congrArg V.bool hg27)) ?_
      refine g_yes (h40.trans (congrArg V.bool hg24)) (g2 43 52 (jb false) (h43.trans (congrArg V.bool hg27)) (rfl : (_ : V) = (.tup [])) fun h53 => ?_)
      refine g2 40 53 (jb false) (h40.trans (congrArg V.bool hg24)) h53 fun h54 => ?_
      refine gz [(1, _), (2, _), (3, _), (54, _)] ⟨h1, h2, h3, h54⟩ ?_
      rintro s ⟨h1, h2, h3, h54⟩
      exact t_f72_j1 H x_1 x_12 (s_l2Good_l1 F x_1 k) ih false _ ⟨h1, h2, h3, h54⟩ h
    refine .exit (.esq (.elp (.ebk (.nsq (.seq (rg (g1 1 (.ref (.bx 1) 0 [0] (ji x_1.1)) h1 fun h55 => ?_)))))))
    refine g1 55 (ji x_1.1) h55 fun h56 => ?_
    obtain ⟨r_33, E_r_33, h⟩ := bind_some h
    refine g_call (m := 0) (al := false) (r := (Enc.enc (r_33 : Bool))) [Enc.enc (x_1.1 : Int), Enc.enc (0 : Int), Enc.enc (8 : Int)] (ta_cons (v := (ji x_1.1)) h56 rfl rfl (ta_cons (v := (ji 0)) rfl rfl rfl (ta_cons (v := (ji 8)) rfl rfl rfl ta_nil))) (H.c103 _ _ _ _ E_r_33) H.g103 rfl rfl rfl rfl ?_
    refine gm (rfl : (_ : V) = (jb r_33)) fun h2 => ?_
    refine gq (.nsq (.ret ?_))
    have hr := Option.some.inj h
    subst hr
    exact rrA (res_tmp h2) rfl
def s_l2Good (F : Nat) (x_1 : (Int × (List (Int × Int)))) : Option Bool :=
  s_l2Good_l1 F x_1 F 0
theorem t72 (H : H72 D σ F) (x_1 : (Int × (List (Int × Int)))) (s : Nat → V) (hs : Facts [(0, (.agg [(ji x_1.1), (Enc.enc (x_1.2 : List (Int × Int)))]))] s) (h : s_l2Good F x_1 = some r) : Run D σ (R72 r) (.run A72 []) s := by
  unfold s_l2Good at h
  have h0 := hs
  refine .seq (run_reg ?_)
  refine e_clr ?_
  refine ez [(0, _), (1, _)] ⟨(keep_clear (pk := [1]) h0 rfl (map_agg (maps_cons mi (maps_cons me maps_nil)))), (gone_clear (pk := [1]) (t := 1) rfl)⟩ ?_
  rintro s ⟨h0, h1⟩
  refine g_box (.agg [(ji x_1.1), (Enc.enc (x_1.2 : List (Int × Int)))]) (rd_of h0 rfl) h1 rfl ?_
  refine g0 (jb false) fun h2 => ?_
  refine gq (.nsq (.seq (.seq (rg (g0 (ji 0) fun h3 => gq (.nsq (.block (.loop ?_))))))))
  exact t_f72_l1 H x_1 F 0 _ ⟨rfl, h2, h3⟩ h
end
def e72 (F : Nat) : Ent := ent 72 (fun (x : ((Int × (List (Int × Int))) × Unit)) => s_l2Good F x.1) (fun (r : Bool) => (Enc.enc (r : Bool))) 0 false []
theorem p72 {F : Nat} {x0 : (Int × (List (Int × Int)))} {r : Bool} (h : s_l2Good F x0 = some r) : (e72 F).den [Enc.enc x0] = some (Enc.enc (r : Bool)) := ent_put (x0, ()) h
theorem o72 {D : Den} {σ : Sig} {F : Nat} (hF : Fits2 Try.prog D σ) (H : H72 D σ F) : (e72 F).Ok Try.prog := by
  refine ok_of (f := 72) (show unk 72 = 72 from rfl) (fun args r h => ?_) ⟨Try.f72, Try.func72, rfl, rfl⟩
  obtain ⟨⟨x0, _⟩, y, rfl, hy, rfl⟩ := da_open h
  exact contract_run hF (by kernel_rfl) Try.func72 rfl c72 (show 1 ≤ Try.f72.ntmps by decide) (t72 H x0 _ rfl hy)
/- loop.example/g01109/spec.l2Bits -/
def A87_2 : AC := (.cond (.t 10) .skip (.exit 0))
def A87_4 : AC := (.cond (.t 17) (.reg [.clr [20, 21]] [(jm 18 5), (jm 19 6), (.mk (some 20) none false (.lit (.int .i64 (.ofNat 0)) 1 [(0, 0, (.t 19))])), (.mk (some 21) none false (.app .s (.t 18) (.t 20))), (jm 5 21)] [.home 21 5]) .skip)
def A87_5 : AC := (.reg [] [(jm 11 6), ((jv 12 (.bin .add (.t 11) (jn 1)))), (jm 6 12)] [])
def A87_3 : AC := (.seq (.block 1 (.seq (.reg [] [(jm 13 1), (jm 14 6), ((jv 15 (.bin .shr (.t 13) (.t 14)))), ((jv 16 (.bin .and (.t 15) (jn 1)))), ((jv 17 (.bin .eql (.t 16) (jn 1))))] []) A87_4)) A87_5)
def A87_1 : AC := (.seq (.seq (.reg [] [(jm 8 6), (jm 9 0), ((jv 10 (.bin .lss (.t 8) (.t 9))))] []) A87_2) A87_3)
def A87_6 : AC := (.seq (.reg [] [(jm 22 5), (jm 4 22)] [.home 5 4]) .ret)
def A87_9 : AC := (.block 0 (.loop A87_1))
def A87_8 : AC := (.seq (.seq (.reg [] [((jv 6 (.mov (jn 0))))] []) A87_9) A87_6)
def A87_7 : AC := (.seq (.reg [.clr [7]] [(.mk (some 7) none false (.lit (.int .i64 (.ofNat 0)) 0 [])), (jm 5 7)] [.home 7 5]) A87_8)
def A87 : AC := (.seq (.reg [] [((jv 4 (.mov (.k (.sl .nl .s 0 [])))))] []) A87_7)
def an87 : List An := [{ id := 1, pre := [.clr [7]], ep := [.home 7 5], lin := [], sp := [] }, { id := 6, pre := [.clr [20, 21]], ep := [.home 21 5], lin := [], sp := [] }, { id := 7, pre := [], ep := [.home 5 4], lin := [], sp := [] }]
theorem c87 : cC Try.prog Try.f87.ntmps an87 (Try.f87.body.getD .skip) = some A87 := by kernel_rfl
structure H87 (D : Den) (σ : Sig) (F : Nat) : Prop where
  mk ::
abbrev R87 (r : (List Int)) : (Nat → V) → Prop := RR Try.prog [.tmp 4] 0 false (Enc.enc (r : (List Int)))
section
variable {D : Den} {σ : Sig} {F : Nat} {r : (List Int)}
def s_l2Bits_j1 (F : Nat) (x_1 : Int) (x_2 : Int) (x_8 : Int) (c1 : (List Int) → Int → Option (List Int)) (x_15 : (List Int)) : Option (List Int) :=
  c1 x_15 (w64 (x_8 + 1))
theorem t_f87_j1 (H : H87 D σ F) (x_1 : Int) (x_2 : Int) (x_8 : Int) (c1 : (List Int) → Int → Option (List Int)) (Hc1 : ∀ (x_7 : (List Int)) (x_8 : Int) (s : Nat → V), Facts [(0, (ji x_1)), (1, (ji x_2)), (4, (.sl .nl (Enc.shp Int) 0 [])), (5, (oI 5 [] (.of x_7))), (6, (ji x_8))] s → c1 x_7 x_8 = some r → Run D σ (R87 r) (.run A87_1 [.lp A87_1, .bk 0, .sq A87_6]) s) (x_15 : (List Int)) (s : Nat → V) (hs : Facts [(0, (ji x_1)), (1, (ji x_2)), (4, (.sl .nl (Enc.shp Int) 0 [])), (5, (oI 5 [] (.of x_15))), (6, (ji x_8))] s) (h : s_l2Bits_j1 F x_1 x_2 x_8 c1 x_15 = some r) : Run D σ (R87 r) (.nrm [.bk 1, .sq A87_5, .lp A87_1, .bk 0, .sq A87_6]) s := by
  unfold s_l2Bits_j1 at h
  obtain ⟨h0, h1, h4, h5, h6⟩ := hs
  refine .nbk (.nsq (rg (gm h6 fun h11 => g1 11 (ji (w64 (x_8 + 1))) h11 fun h12 => ?_)))
  refine gm h12 fun h6 => gq (.nlp ?_)
  exact Hc1 x_15 (w64 (x_8 + 1)) _ ⟨h0, h1, h4, h5, h6⟩ h
def s_l2Bits_l1 (F : Nat) (x_1 : Int) (x_2 : Int)  : Nat → (List Int) → Int → Option (List Int)
  | 0, _, _ => none
  | k + 1, x_7, x_8 =>
    bif decide (x_8 < x_1) then
      (shrI .i64 x_2 x_8).bind fun q_13 =>
      bif ((iand .i64 q_13 1) == 1) then
        (appL x_7 [x_8]).bind fun ap_16 =>
        s_l2Bits_j1 F x_1 x_2 x_8 (s_l2Bits_l1 F x_1 x_2 k) ap_16
      else
        s_l2Bits_j1 F x_1 x_2 x_8 (s_l2Bits_l1 F x_1 x_2 k) x_7
    else
      some x_7
theorem t_f87_l1 (H : H87 D σ F) (x_1 : Int) (x_2 : Int)  : ∀ (k : Nat) (x_7 : (List Int)) (x_8 : Int) (s : Nat → V), Facts [(0, (ji x_1)), (1, (ji x_2)), (4, (.sl .nl (Enc.shp Int) 0 [])), (5, (oI 5 [] (.of x_7))), (6, (ji x_8))] s → s_l2Bits_l1 F x_1 x_2 k x_7 x_8 = some r → Run D σ (R87 r) (.run A87_1 [.lp A87_1, .bk 0, .sq A87_6]) s := by
  intro k
  induction k with
  | zero => intro x_7 x_8 s _ h; exact nomatch (h : (none : Option _) = some r)
  | succ k ih =>
    intro x_7 x_8 s hs h
    rw [s_l2Bits_l1] at h
    obtain ⟨h0, h1, h4, h5, h6⟩ := hs
    refine .seq (.seq (rg (gm h6 fun h8 => gm h0 fun h9 => g2 8 9 (jb (decide (x_8 < x_1))) h8 h9 fun h10 => ?_)))
    refine gq (.nsq (run_cond (t := decide (x_8 < x_1)) h10 h (fun h => ?_) (fun h => ?_)))
    · refine .skip (.nsq (.seq (.block (.seq (rg (gm h1 fun h13 => gm h6 fun h14 => ?_))))))
      obtain ⟨q_13, E_q_13, h⟩ := bind_some h
      refine gv (ji q_13) (ev_shr h13 h14 E_q_13) fun h15 => ?_
      refine g1 15 (ji (iand .i64 q_13 1)) h15 fun h16 => ?_
      refine g1 16 (jb ((iand .i64 q_13 1) == 1)) h16 fun h17 => ?_
      refine gq (.nsq (run_cond (t := ((iand .i64 q_13 1) == 1)) h17 h (fun h => ?_) (fun h => ?_)))
      · refine run_reg ?_
        refine e_clr ?_
        refine ez [(0, _), (1, _), (4, _), (5, _), (6, _), (20, _), (21, _)] ⟨(keep_clear (pk := [20, 21]) h0 rfl mi), (keep_clear (pk := [20, 21]) h1 rfl mi), (keep_clear (pk := [20, 21]) h4 rfl rfl), (keep_clear (pk := [20, 21]) h5 rfl (map_encO (r := 5) (p := []) rfl rfl)), (keep_clear (pk := [20, 21]) h6 rfl mi), (gone_clear (pk := [20, 21]) (t := 20) rfl), (gone_clear (pk := [20, 21]) (t := 21) rfl)⟩ ?_
        rintro s ⟨h0, h1, h4, h5, h6, h20, h21⟩
        refine gm h5 fun h18 => gm h6 fun h19 => g_litL [(19, (ji x_8))] [Enc.enc (x_8 : Int)] h19 rfl rfl h20 ?_
        obtain ⟨ap_16, E_ap_16, h⟩ := bind_some h
        refine g_app (q := 5) (p := []) (o := (.of (x_7 : List Int))) (ys := ([x_8] : List Int)) (t2 := (.at 20 [])) (lo2 := 0) h18 rfl rfl h21 (appN_L (o := (.of (x_7 : List Int))) E_ap_16 trivial) (fun s_19 ha_19 => ?_)
        refine gm (rfl : (_ : V) = (oI 21 [] (.of ap_16))) fun h5 => ?_
        refine g_end ?_
        refine e_home (r := 21) (x := 5) (v := _) h5 rfl (fun s_20 hg_20 => ?_)
        refine ez [(0, (ji x_1)), (1, (ji x_2)), (4, (.sl .nl (Enc.shp Int) 0 [])), (5, (oI 5 [] (.of ap_16))), (6, (ji x_8))] ⟨(hg_20 0 _ _ (show s_19 0 = (ji x_1) from keep_app ha_19 h0 mi) mi), (hg_20 1 _ _ (show s_19 1 = (ji x_2) from keep_app ha_19 h1 mi) mi), (hg_20 4 _ (.sl .nl (Enc.shp Int) 0 []) (show s_19 4 = (.sl .nl (Enc.shp Int) 0 []) from keep_app ha_19 h4 rfl) rfl), (hg_20 5 _ _ h5 (map_encO (r := 21) (p := []) rfl rfl)), (hg_20 6 _ _ (show s_19 6 = (ji x_8) from keep_app ha_19 h6 mi) mi)⟩ ?_
        rintro s ⟨h0, h1, h4, h5, h6⟩
        exact t_f87_j1 H x_1 x_2 x_8 (s_l2Bits_l1 F x_1 x_2 k) ih ap_16 _ ⟨h0, h1, h4, h5, h6⟩ h
      refine .skip ?_
      exact t_f87_j1 H x_1 x_2 x_8 (s_l2Bits_l1 F x_1 x_2 k) ih x_7 _ ⟨h0, h1, h4, h5, h6⟩ h
    refine .exit (.esq (.elp (.ebk (.nsq (.seq (rg (gm h5 fun h22 => gm h22 fun h4 => g_end ?_)))))))
    refine e_home (r := 5) (x := 4) (v := _) h4 rfl (fun s_21 hg_21 => ?_)
    refine ez [(4, (oI 4 [] (.of x_7)))] (hg_21 4 _ _ h4 (map_encO (r := 5) (p := []) rfl rfl)) ?_
    rintro s h4
    refine .nsq (.ret ?_)
    have hr := Option.some.inj h
    subst hr
    exact rrA (res_tmp h4) (fin_retF (fin_own (o := .of x_7)) (mine_own rfl))
def s_l2Bits (F : Nat) (x_1 : Int) (x_2 : Int) : Option (List Int) :=
  s_l2Bits_l1 F x_1 x_2 F [] 0
theorem t87 (H : H87 D σ F) (x_1 : Int) (x_2 : Int) (s : Nat → V) (hs : Facts [(0, (ji x_1)), (1, (ji x_2))] s) (h : s_l2Bits F x_1 x_2 = some r) : Run D σ (R87 r) (.run A87 []) s := by
  unfold s_l2Bits at h
  obtain ⟨h0, h1⟩ := hs
  refine .seq (rg (g0 (.sl .nl (Enc.shp Int) 0 []) fun h4 => ?_))
  refine gq (.nsq (.seq (run_reg ?_)))
  refine e_clr ?_
  refine ez [(0, _), (1, _), (4, _), (7, _)] ⟨(keep_clear (pk := [7]) h0 rfl mi), (keep_clear (pk := [7]) h1 rfl mi), (keep_clear (pk := [7]) h4 rfl rfl), (gone_clear (pk := [7]) (t := 7) rfl)⟩ ?_
  rintro s ⟨h0, h1, h4, h7⟩
  refine g_litL [] [] trivial rfl rfl h7 ?_
  refine gm (rfl : (_ : V) = (oI 7 [] (.of []))) fun h5 => ?_
  refine g_end ?_
  refine e_home (r := 7) (x := 5) (v := _) h5 rfl (fun s_2 hg_2 => ?_)
  refine ez [(0, (ji x_1)), (1, (ji x_2)), (4, (.sl .nl (Enc.shp Int) 0 [])), (5, (oI 5 [] (.of [])))] ⟨(hg_2 0 _ _ h0 mi), (hg_2 1 _ _ h1 mi), (hg_2 4 _ (.sl .nl (Enc.shp Int) 0 []) h4 rfl), (hg_2 5 _ _ h5 (map_encO (r := 7) (p := []) rfl rfl))⟩ ?_
  rintro s ⟨h0, h1, h4, h5⟩
  refine .nsq (.seq (.seq (rg (g0 (ji 0) fun h6 => gq (.nsq (.block (.loop ?_)))))))
  exact t_f87_l1 H x_1 x_2 F [] 0 _ ⟨h0, h1, h4, h5, h6⟩ h
end
def e87 (F : Nat) : Ent := ent 87 (fun (x : (Int × Int × Unit)) => s_l2Bits F x.1 x.2.1) (fun (r : (List Int)) => (Enc.enc (r : (List Int)))) 0 false []
theorem p87 {F : Nat} {x0 : Int} {x1 : Int} {r : (List Int)} (h : s_l2Bits F x0 x1 = some r) : (e87 F).den [Enc.enc x0, Enc.enc x1] = some (Enc.enc (r : (List Int))) := ent_put (x0, x1, ()) h
theorem o87 {D : Den} {σ : Sig} {F : Nat} (hF : Fits2 Try.prog D σ) (H : H87 D σ F) : (e87 F).Ok Try.prog := by
  refine ok_of (f := 87) (show unk 87 = 87 from rfl) (fun args r h => ?_) ⟨Try.f87, Try.func87, rfl, rfl⟩
  obtain ⟨⟨x0, x1, _⟩, y, rfl, hy, rfl⟩ := da_open h
  exact contract_run hF (by kernel_rfl) Try.func87 rfl c87 (show 2 ≤ Try.f87.ntmps by decide) (t87 H x0 x1 _ ⟨rfl, rfl⟩ hy)
/- loop.example/g01109/spec.l1Has -/
def A74_2 : AC := (.cond (.t 9) .skip (.exit 0))
def A74_4 : AC := (.cond (.t 17) (.seq (.reg [] [((jv 4 (.mov (.k (.bool true)))))] []) .ret) .skip)
def A74_5 : AC := (.reg [] [(jm 10 5), ((jv 11 (.bin .add (.t 10) (jn 1)))), (jm 5 11)] [])
def A74_3 : AC := (.seq (.block 1 (.seq (.reg [] [(jm 12 0), (jm 13 5), ((jv 14 (.idx (.t 12) (.t 13) 1))), ((jv 15 (.load .s (.t 14)))), (jm 16 1), ((jv 17 (.bin .eql (.t 15) (.t 16))))] []) A74_4)) A74_5)
def A74_1 : AC := (.seq (.seq (.reg [] [(jm 6 5), (jm 7 0), ((jv 8 (.len (.t 7)))), ((jv 9 (.bin .lss (.t 6) (.t 8))))] []) A74_2) A74_3)
def A74_6 : AC := (.seq (.reg [] [((jv 4 (.mov (.k (.bool false)))))] []) .ret)
def A74_8 : AC := (.block 0 (.loop A74_1))
def A74_7 : AC := (.seq (.seq (.reg [] [((jv 5 (.mov (jn 0))))] []) A74_8) A74_6)
def A74 : AC := (.seq (.reg [] [((jv 4 (.mov (.k (.bool false)))))] []) A74_7)
def an74 : List An := []
theorem c74 : cC Try.prog Try.f74.ntmps an74 (Try.f74.body.getD .skip) = some A74 := by kernel_rfl
structure H74 (D : Den) (σ : Sig) (F : Nat) : Prop where
  mk ::
abbrev R74 (r : Bool) : (Nat → V) → Prop := RR Try.prog [.tmp 4] 0 false (Enc.enc (r : Bool))
section
variable {D : Den} {σ : Sig} {F : Nat} {r : Bool}
def s_l1Has_l1 (F : Nat) (x_1 : (List Int)) (x_2 : Int)  : Nat → Int → Option Bool
  | 0, _ => none
  | k + 1, x_4 =>
    bif decide (x_4 < (x_1.length : Int)) then
      (idx x_1 x_4).bind fun e_6 =>
      bif (e_6 == x_2) then
        some true
      else
        (s_l1Has_l1 F x_1 x_2 k) (w64 (x_4 + 1))
    else
      some false
theorem t_f74_l1 (H : H74 D σ F) (x_1 : (List Int)) (x_2 : Int)  : ∀ (k : Nat) (x_4 : Int) (s : Nat → V), Facts [(0, (eL x_1)), (1, (ji x_2)), (4, (jb false)), (5, (ji x_4))] s → s_l1Has_l1 F x_1 x_2 k x_4 = some r → Run D σ (R74 r) (.run A74_1 [.lp A74_1, .bk 0, .sq A74_6]) s := by
  intro k
  induction k with
  | zero => intro x_4 s _ h; exact nomatch (h : (none : Option _) = some r)
  | succ k ih =>
    intro x_4 s hs h
    rw [s_l1Has_l1] at h
    obtain ⟨h0, h1, h4, h5⟩ := hs
    refine .seq (.seq (rg (gm h5 fun h6 => gm h0 fun h7 => gv (ji (x_1.length : Int)) (ev_len (xs := x_1) h7) fun h8 => ?_)))
    refine g2 6 8 (jb (decide (x_4 < (x_1.length : Int)))) h6 h8 fun h9 => ?_
    refine gq (.nsq (run_cond (t := decide (x_4 < (x_1.length : Int))) h9 h (fun h => ?_) (fun h => ?_)))
    · refine .skip (.nsq (.seq (.block (.seq (rg (gm h0 fun h12 => gm h5 fun h13 => ?_))))))
      obtain ⟨e_6, E_e_6, h⟩ := bind_some h
      refine gv (.ref .sh 0 [] (ji e_6)) (ev_idx (t := .sh) (lo := 0) (xs := x_1) h12 h13 E_e_6 rfl rfl) fun h14 => ?_
      refine g1 14 (ji e_6) h14 fun h15 => ?_
      refine gm h1 fun h16 => g2 15 16 (jb (e_6 == x_2)) h15 h16 fun h17 => ?_
      refine gq (.nsq (run_cond (t := (e_6 == x_2)) h17 h (fun h => ?_) (fun h => ?_)))
      · refine .seq (rg (g0 (jb true) fun h4 => ?_))
        refine gq (.nsq (.ret ?_))
        have hr := Option.some.inj h
        subst hr
        exact rrA (res_tmp h4) rfl
      refine .skip (.nbk (.nsq (rg (gm h5 fun h10 => g1 10 (ji (w64 (x_4 + 1))) h10 fun h11 => ?_))))
      refine gm h11 fun h5 => gq (.nlp ?_)
      exact ih (w64 (x_4 + 1)) _ ⟨h0, h1, h4, h5⟩ h
    refine .exit (.esq (.elp (.ebk (.nsq (.seq (rg (g0 (jb false) fun h4 => ?_)))))))
    refine gq (.nsq (.ret ?_))
    have hr := Option.some.inj h
    subst hr
    exact rrA (res_tmp h4) rfl
def s_l1Has (F : Nat) (x_1 : (List Int)) (x_2 : Int) : Option Bool :=
  s_l1Has_l1 F x_1 x_2 F 0
theorem t74 (H : H74 D σ F) (x_1 : (List Int)) (x_2 : Int) (s : Nat → V) (hs : Facts [(0, (eL x_1)), (1, (ji x_2))] s) (h : s_l1Has F x_1 x_2 = some r) : Run D σ (R74 r) (.run A74 []) s := by
  unfold s_l1Has at h
  obtain ⟨h0, h1⟩ := hs
  refine .seq (rg (g0 (jb false) fun h4 => ?_))
  refine gq (.nsq (.seq (.seq (rg (g0 (ji 0) fun h5 => gq (.nsq (.block (.loop ?_))))))))
  exact t_f74_l1 H x_1 x_2 F 0 _ ⟨h0, h1, h4, h5⟩ h
end
def e74 (F : Nat) : Ent := ent 74 (fun (x : ((List Int) × Int × Unit)) => s_l1Has F x.1 x.2.1) (fun (r : Bool) => (Enc.enc (r : Bool))) 0 false []
theorem p74 {F : Nat} {x0 : (List Int)} {x1 : Int} {r : Bool} (h : s_l1Has F x0 x1 = some r) : (e74 F).den [Enc.enc x0, Enc.enc x1] = some (Enc.enc (r : Bool)) := ent_put (x0, x1, ()) h
theorem o74 {D : Den} {σ : Sig} {F : Nat} (hF : Fits2 Try.prog D σ) (H : H74 D σ F) : (e74 F).Ok Try.prog := by
  refine ok_of (f := 74) (show unk 74 = 74 from rfl) (fun args r h => ?_) ⟨Try.f74, Try.func74, rfl, rfl⟩
  obtain ⟨⟨x0, x1, _⟩, y, rfl, hy, rfl⟩ := da_open h
  exact contract_run hF (by kernel_rfl) Try.func74 rfl c74 (show 2 ≤ Try.f74.ntmps by decide) (t74 H x0 x1 _ ⟨rfl, rfl⟩ hy)
/- loop.example/g01109/spec.l2Near -/
def A145_2 : AC := (.cond (.t 13) .skip (.exit 0))
def A145_5 : AC := (.cond (.t 42) (.seq (.reg [] [((jv 6 (.mov (.k (.bool true)))))] []) .ret) .skip)
def A145_4 : AC := (.seq (.reg [] [((jv 21 (.idxA (.t 8) (jn 0) 2 1))), ((jv 22 (.load .s (.t 21)))), (jm 23 1), ((jv 24 (.bin .eql (.t 22) (.t 23)))), (jm 25 24), ((jg 26 25 true (.idxA (.t 8) (jn 1) 2 1))), ((jg 27 25 true (.load .s (.t 26)))), ((jg 28 25 true (.mov (.t 2)))), ((jg 29 25 true (.bin .eql (.t 27) (.t 28)))), ((jv 30 (.pick (.t 25) (.t 29) (.k (.bool false))))), (jm 31 30), ((jg 32 31 false (.idxA (.t 8) (jn 0) 2 1))), ((jg 33 31 false (.load .s (.t 32)))), ((jg 34 31 false (.mov (.t 2)))), ((jg 35 31 false (.bin .eql (.t 33) (.t 34)))), ((jg 36 31 false (.mov (.t 35)))), ((jg 37 36 true (.idxA (.t 8) (jn 1) 2 1))), ((jg 38 36 true (.load .s (.t 37)))), ((jg 39 36 true (.mov (.t 1)))), ((jg 40 36 true (.bin .eql (.t 38) (.t 39)))), ((jg 41 31 false (.pick (.t 36) (.t 40) (.k (.bool false))))), ((jv 42 (.pick (.t 31) (.k (.bool true)) (.t 41))))] []) A145_5)
def A145_6 : AC := (.reg [] [(jm 14 7), ((jv 15 (.bin .add (.t 14) (jn 1)))), (jm 7 15)] [])
def A145_3 : AC := (.seq (.block 1 (.seq (.reg [.clr [8]] [((jv 16 (.fld (.t 3) 1 1))), ((jv 17 (.load .p (.t 16)))), (jm 18 7), ((jv 19 (.idx (.t 17) (.t 18) 2))), ((jv 20 (.load (.ag [.s, .s]) (.t 19)))), (.mk (some 8) none false (.alloc (.agg [(.int .i64 (.ofNat 0)), (.int .i64 (.ofNat 0))]))), (.mk none none false (.store (.ag [.s, .s]) (.t 8) (.t 20)))] []) A145_4)) A145_6)
def A145_1 : AC := (.seq (.seq (.reg [] [(jm 9 7), ((jv 10 (.fld (.t 3) 1 1))), ((jv 11 (.load .p (.t 10)))), ((jv 12 (.len (.t 11)))), ((jv 13 (.bin .lss (.t 9) (.t 12))))] []) A145_2) A145_3)
def A145_7 : AC := (.seq (.reg [] [((jv 6 (.mov (.k (.bool false)))))] []) .ret)
def A145_9 : AC := (.block 0 (.loop A145_1))
def A145_8 : AC := (.seq (.seq (.reg [] [((jv 7 (.mov (jn 0))))] []) A145_9) A145_7)
def A145 : AC := (.seq (.reg [.clr [3]] [(.mk (some 3) none false (.box (.t 0))), ((jv 6 (.mov (.k (.bool false)))))] []) A145_8)
def an145 : List An := [{ id := 0, pre := [.clr [3]], ep := [], lin := [], sp := [] }, { id := 4, pre := [.clr [8]], ep := [], lin := [], sp := [] }]
theorem c145 : cC Try.prog Try.f145.ntmps an145 (Try.f145.body.getD .skip) = some A145 := by kernel_rfl
structure H145 (D : Den) (σ : Sig) (F : Nat) : Prop where
  mk ::
abbrev R145 (r : Bool) : (Nat → V) → Prop := RR Try.prog [.tmp 6] 0 false (Enc.enc (r : Bool))
section
variable {D : Den} {σ : Sig} {F : Nat} {r : Bool}
def s_l2Near_j1 (F : Nat) (x_2 : Int) (x_3 : Int) (x_1 : (Int × (List (Int × Int)))) (x_6 : Int) (c1 : Int → Option Bool) (x_10 : Bool) : Option Bool :=
  bif x_10 then
    some true
  else
    c1 (w64 (x_6 + 1))
theorem t_f145_j1 (H : H145 D σ F) (x_2 : Int) (x_3 : Int) (x_1 : (Int × (List (Int × Int)))) (x_6 : Int) (c1 : Int → Option Bool) (Hc1 : ∀ (x_6 : Int) (s : Nat → V), Facts [(1, (ji x_2)), (2, (ji x_3)), (3, (.ref (.bx 3) 0 [] (.agg [(ji x_1.1), (Enc.enc (x_1.2 : List (Int × Int)))]))), (6, (jb false)), (7, (ji x_6))] s → c1 x_6 = some r → Run D σ (R145 r) (.run A145_1 [.lp A145_1, .bk 0, .sq A145_7]) s) (x_10 : Bool) (s : Nat → V) (hs : Facts [(1, (ji x_2)), (2, (ji x_3)), (3, (.ref (.bx 3) 0 [] (.agg [(ji x_1.1), (Enc.enc (x_1.2 : List (Int × Int)))]))), (6, (jb false)), (7, (ji x_6)), (42, (jb x_10))] s) (h : s_l2Near_j1 F x_2 x_3 x_1 x_6 c1 x_10 = some r) : Run D σ (R145 r) (.nrm [.sq A145_5, .bk 1, .sq A145_6, .lp A145_1, .bk 0, .sq A145_7]) s := by
  unfold s_l2Near_j1 at h
  obtain ⟨h1, h2, h3, h6, h7, h42⟩ := hs
  refine .nsq (run_cond (t := x_10) h42 h (fun h => ?_) (fun h => ?_))
  · refine .seq (rg (g0 (jb true) fun h6 => ?_))
    refine gq (.nsq (.ret ?_))
    have hr := Option.some.inj h
    subst hr
    exact rrA (res_tmp h6) rfl
  refine .skip (.nbk (.nsq (rg (gm h7 fun h14 => g1 14 (ji (w64 (x_6 + 1))) h14 fun h15 => ?_))))
  refine gm h15 fun h7 => gq (.nlp ?_)
  exact Hc1 (w64 (x_6 + 1)) _ ⟨h1, h2, h3, h6, h7⟩ h
def s_l2Near_l1 (F : Nat) (x_2 : Int) (x_3 : Int) (x_1 : (Int × (List (Int × Int))))  : Nat → Int → Option Bool
  | 0, _ => none
  | k + 1, x_6 =>
    bif decide (x_6 < (x_1.2.length : Int)) then
      (idx x_1.2 x_6).bind fun e_9 =>
      bif (e_9.1 == x_2) then
        bif (e_9.2 == x_3) then
          s_l2Near_j1 F x_2 x_3 x_1 x_6 (s_l2Near_l1 F x_2 x_3 x_1 k) true
        else
          bif (e_9.1 == x_3) then
            s_l2Near_j1 F x_2 x_3 x_1 x_6 (s_l2Near_l1 F x_2 x_3 x_1 k) (e_9.2 == x_2)
          else
            s_l2Near_j1 F x_2 x_3 x_1 x_6 (s_l2Near_l1 F x_2 x_3 x_1 k) false
      else
        bif (e_9.1 == x_3) then
          s_l2Near_j1 F x_2 x_3 x_1 x_6 (s_l2Near_l1 F x_2 x_3 x_1 k) (e_9.2 == x_2)
        else
          s_l2Near_j1 F x_2 x_3 x_1 x_6 (s_l2Near_l1 F x_2 x_3 x_1 k) false
    else
      some false
theorem t_f145_l1 (H : H145 D σ F) (x_2 : Int) (x_3 : Int) (x_1 : (Int × (List (Int × Int))))  : ∀ (k : Nat) (x_6 : Int) (s : Nat → V), Facts [(1, (ji x_2)), (2, (ji x_3)), (3, (.ref (.bx 3) 0 [] (.agg [(ji x_1.1), (Enc.enc (x_1.2 : List (Int × Int)))]))), (6, (jb false)), (7, (ji x_6))] s → s_l2Near_l1 F x_2 x_3 x_1 k x_6 = some r → Run D σ (R145 r) (.run A145_1 [.lp A145_1, .bk 0, .sq A145_7]) s := by
  intro k
  induction k with
  | zero => intro x_6 s _ h; exact nomatch (h : (none : Option _) = some r)
  | succ k ih =>
    intro x_6 s hs h
    rw [s_l2Near_l1] at h
    obtain ⟨h1, h2, h3, h6, h7⟩ := hs
    refine .seq (.seq (rg (gm h7 fun h9 => g1 3 (.ref (.bx 3) 0 [1] (Enc.enc (x_1.2 : List (Int × Int)))) h3 fun h10 => ?_)))
    refine g1 10 (Enc.enc (x_1.2 : List (Int × Int))) h10 fun h11 => ?_
    refine gv (ji (x_1.2.length : Int)) (ev_len (xs := x_1.2) h11) fun h12 => ?_
    refine g2 9 12 (jb (decide (x_6 < (x_1.2.length : Int)))) h9 h12 fun h13 => ?_
    refine gq (.nsq (run_cond (t := decide (x_6 < (x_1.2.length : Int))) h13 h (fun h => ?_) (fun h => ?_)))
    · refine .skip (.nsq (.seq (.block (.seq (run_reg ?_)))))
      refine e_clr ?_
      refine ez [(1, _), (2, _), (3, _), (6, _), (7, _), (8, _)] ⟨(keep_clear (pk := [8]) h1 rfl mi), (keep_clear (pk := [8]) h2 rfl mi), (keep_clear (pk := [8]) h3 rfl (map_bx rfl (map_agg (maps_cons mi (maps_cons me maps_nil))))), (keep_clear (pk := [8]) h6 rfl mb), (keep_clear (pk := [8]) h7 rfl mi), (gone_clear (pk := [8]) (t := 8) rfl)⟩ ?_
      rintro s ⟨h1, h2, h3, h6, h7, h8⟩
      refine g1 3 (.ref (.bx 3) 0 [1] (Enc.enc (x_1.2 : List (Int × Int)))) h3 fun h16 => ?_
      refine g1 16 (Enc.enc (x_1.2 : List (Int × Int))) h16 fun h17 => ?_
      refine gm h7 fun h18 => ?_
      obtain ⟨e_9, E_e_9, h⟩ := bind_some h
      refine gv (.ref .sh 0 [] (.agg [(ji e_9.1), (ji e_9.2)])) (ev_idx (t := .sh) (lo := 0) (xs := x_1.2) h17 h18 E_e_9 rfl rfl) fun h19 => ?_
      refine g1 19 (.agg [(ji e_9.1), (ji e_9.2)]) h19 fun h20 => ?_
      refine g_alloc h8 ?_
      refine g_store (.agg [(ji e_9.1), (ji e_9.2)]) (rd_of rfl rfl) (rd_of h20 rfl) (by refine ⟨by decide, by decide, rfl, rfl, rfl, ?_⟩; first | rfl | (simp [V.toks, V.tokss, Enc.toks_enc]; done) | simp [V.toks, V.tokss, Enc.toks_enc, tok_memP]) ?_
      refine gz [(1, (ji x_2)), (2, (ji x_3)), (3, (.ref (.bx 3) 0 [] (.agg [(ji x_1.1), (Enc.enc (x_1.2 : List (Int × Int)))]))), (6, (jb false)), (7, (ji x_6)), (8, (.ref (.bx 8) 0 [] (.agg [(ji e_9.1), (ji e_9.2)])))] ⟨(keep_mut h1 rfl), (keep_mut h2 rfl), (keep_mut h3 (mut_ref_ne rfl rfl (mut_agg (muts_cons rfl (muts_cons (Enc.mut_enc _ _ _ _ (x_1.2 : List (Int × Int))) rfl))))), (keep_mut h6 rfl), (keep_mut h7 rfl), (keep_mut rfl rfl)⟩ ?_
      rintro s ⟨h1, h2, h3, h6, h7, h8⟩
      refine .nsq (.seq (rg (g1 8 (.ref (.bx 8) 0 [0] (ji e_9.1)) h8 fun h21 => ?_)))
      refine g1 21 (ji e_9.1) h21 fun h22 => ?_
      refine gm h1 fun h23 => g2 22 23 (jb (e_9.1 == x_2)) h22 h23 fun h24 => ?_
      refine gm h24 fun h25 => split_on (c := (e_9.1 == x_2)) h (fun hg5 h => ?_) (fun hg5 h => ?_)
      · refine g_yes (h25.trans (congrArg V.bool hg5)) (g1 8 (.ref (.bx 8) 0 [1] (ji e_9.2)) h8 fun h26 => ?_)
        refine g_yes (h25.trans (congrArg V.bool hg5)) (g1 26 (ji e_9.2) h26 fun h27 => ?_)
        refine g_yes (h25.trans (congrArg V.bool hg5)) (gm h2 fun h28 => ?_)
        refine g_yes (h25.trans (congrArg V.bool hg5)) (g2 27 28 (jb (e_9.2 == x_3)) h27 h28 fun h29 => ?_)
        refine g2 25 29 (jb (e_9.2 == x_3)) (h25.trans (congrArg V.bool hg5)) h29 fun h30 => ?_
        refine gm h30 fun h31 => split_on (c := (e_9.2 == x_3)) h (fun hg11 h => ?_) (fun hg11 h => ?_)
        · refine g_no (h31.trans (congrArg V.bool hg11)) ?_
          refine g_no (h31.trans (congrArg V.bool hg11)) ?_
          refine g_no (h31.trans (congrArg V.bool hg11)) ?_
          refine g_no (h31.trans (congrArg V.bool hg11)) ?_
          refine g_no (h31.trans (congrArg V.bool hg11)) ?_
          refine g_skip rfl ?_
          refine g_skip rfl ?_
          refine g_skip rfl ?_
          refine g_skip rfl ?_
          refine g_no (h31.trans (congrArg V.bool hg11)) ?_
          refine g2 31 41 (jb true) (h31.trans (congrArg V.bool hg11)) (rfl : (_ : V) = (.tup [])) fun h42 => ?_
          refine gq ?_
          exact t_f145_j1 H x_2 x_3 x_1 x_6 (s_l2Near_l1 F x_2 x_3 x_1 k) ih true _ ⟨h1, h2, h3, h6, h7, h42⟩ h
        refine g_yes (h31.trans (congrArg V.bool hg11)) (g1 8 (.ref (.bx 8) 0 [0] (ji e_9.1)) h8 fun h32 => ?_)
        refine g_yes (h31.trans (congrArg V.bool hg11)) (g1 32 (ji e_9.1) h32 fun h33 => ?_)
        refine g_yes (h31.trans (congrArg V.bool hg11)) (gm h2 fun h34 => ?_)
        refine g_yes (h31.trans (congrArg V.bool hg11)) (g2 33 34 (jb (e_9.1 == x_3)) h33 h34 fun h35 => ?_)
        refine g_yes (h31.trans (congrArg V.bool hg11)) (gm h35 fun h36 => ?_)
        refine split_on (c := (e_9.1 == x_3)) h (fun hg16 h => ?_) (fun hg16 h => ?_)
        · refine g_yes (h36.trans (congrArg V.bool hg16)) (g1 8 (.ref (.bx 8) 0 [1] (ji e_9.2)) h8 fun h37 => ?_)
          refine g_yes (h36.trans (congrArg V.bool hg16)) (g1 37 (ji e_9.2) h37 fun h38 => ?_)
          refine g_yes (h36.trans (congrArg V.bool hg16)) (gm h1 fun h39 => ?_)
          refine g_yes (h36.trans (congrArg V.bool hg16)) (g2 38 39 (jb (e_9.2 == x_2)) h38 h39 fun h40 => ?_)
          refine g_yes (h31.trans (congrArg V.bool hg11)) (g2 36 40 (jb (e_9.2 == x_2)) (h36.trans (congrArg V.bool hg16)) h40 fun h41 => ?_)
          refine g2 31 41 (jb (e_9.2 == x_2)) (h31.trans (congrArg V.bool hg11)) h41 fun h42 => ?_
          refine gq ?_
          exact t_f145_j1 H x_2 x_3 x_1 x_6 (s_l2Near_l1 F x_2 x_3 x_1 k) ih (e_9.2 == x_2) _ ⟨h1, h2, h3, h6, h7, h42⟩ h
        refine g_no (h36.trans (congrArg V.bool hg16)) ?_
        refine g_no (h36.trans (congrArg V.bool hg16)) ?_
        refine g_no (h36.trans (congrArg V.bool hg16)) ?_
        refine g_no (h36.trans (congrArg V.bool hg16)) ?_
        refine g_yes (h31.trans (congrArg V.bool hg11)) (g2 36 40 (jb false) (h36.trans (congrArg V.bool hg16)) (rfl : (_ : V) = (.tup [])) fun h41 => ?_)
        refine g2 31 41 (jb false) (h31.trans (congrArg V.bool hg11)) h41 fun h42 => ?_
        refine gq ?_
        exact t_f145_j1 H x_2 x_3 x_1 x_6 (s_l2Near_l1 F x_2 x_3 x_1 k) ih false _ ⟨h1, h2, h3, h6, h7, h42⟩ h
      refine g_no (h25.trans (congrArg V.bool hg5)) ?_
      refine g_no (h25.trans (congrArg V.bool hg5)) ?_
      refine g_no (h25.trans (congrArg V.bool hg5)) ?_
      refine g_no (h25.trans (congrArg V.bool hg5)) ?_
      refine g2 25 29 (jb false) (h25.trans (congrArg V.bool hg5)) (rfl : (_ : V) = (.tup [])) fun h30 => ?_
      refine gm h30 fun h31 => g_yes h31 (g1 8 (.ref (.bx 8) 0 [0] (ji e_9.1)) h8 fun h32 => ?_)
      refine g_yes h31 (g1 32 (ji e_9.1) h32 fun h33 => ?_)
      refine g_yes h31 (gm h2 fun h34 => ?_)
      refine g_yes h31 (g2 33 34 (jb (e_9.1 == x_3)) h33 h34 fun h35 => ?_)
      refine g_yes h31 (gm h35 fun h36 => ?_)
      refine split_on (c := (e_9.1 == x_3)) h (fun hg16 h => ?_) (fun hg16 h => ?_)
      · refine g_yes (h36.trans (congrArg V.bool hg16)) (g1 8 (.ref (.bx 8) 0 [1] (ji e_9.2)) h8 fun h37 => ?_)
        refine g_yes (h36.trans (congrArg V.bool hg16)) (g1 37 (ji e_9.2) h37 fun h38 => ?_)
        refine g_yes (h36.trans (congrArg V.bool hg16)) (gm h1 fun h39 => ?_)
        refine g_yes (h36.trans (congrArg V.bool hg16)) (g2 38 39 (jb (e_9.2 == x_2)) h38 h39 fun h40 => ?_)
        refine g_yes h31 (g2 36 40 (jb (e_9.2 == x_2)) (h36.trans (congrArg V.bool hg16)) h40 fun h41 => ?_)
        refine g2 31 41 (jb (e_9.2 == x_2)) h31 h41 fun h42 => ?_
        refine gq ?_
        exact t_f145_j1 H x_2 x_3 x_1 x_6 (s_l2Near_l1 F x_2 x_3 x_1 k) ih (e_9.2 == x_2) _ ⟨h1, h2, h3, h6, h7, h42⟩ h
      refine g_no (h36.trans (congrArg V.bool hg16)) ?_
      refine g_no (h36.trans (congrArg V.bool hg16)) ?_
      refine g_no (h36.trans (congrArg V.bool hg16)) ?_
      refine g_no (h36.trans (congrArg V.bool hg16)) ?_
      refine g_yes h31 (g2 36 40 (jb false) (h36.trans (congrArg V.bool hg16)) (rfl : (_ : V) = (.tup [])) fun h41 => ?_)
      refine g2 31 41 (jb false) h31 h41 fun h42 => ?_
      refine gq ?_
      exact t_f145_j1 H x_2 x_3 x_1 x_6 (s_l2Near_l1 F x_2 x_3 x_1 k) ih false _ ⟨h1, h2, h3, h6, h7, h42⟩ h
    refine .exit (.esq (.elp (.ebk (.nsq (.seq (rg (g0 (jb false) fun h6 => ?_)))))))
    refine gq (.nsq (.ret ?_))
    have hr := Option.some.inj h
    subst hr
    exact rrA (res_tmp h6) rfl
def s_l2Near (F : Nat) (x_1 : (Int × (List (Int × Int)))) (x_2 : Int) (x_3 : Int) : Option Bool :=
  s_l2Near_l1 F x_2 x_3 x_1 F 0
theorem t145 (H : H145 D σ F) (x_1 : (Int × (List (Int × Int)))) (x_2 : Int) (x_3 : Int) (s : Nat → V) (hs : Facts [(0, (.agg [(ji x_1.1), (Enc.enc (x_1.2 : List (Int × Int)))])), (1, (ji x_2)), (2, (ji x_3))] s) (h : s_l2Near F x_1 x_2 x_3 = some r) : Run D σ (R145 r) (.run A145 []) s := by
  unfold s_l2Near at h
  obtain ⟨h0, h1, h2⟩ := hs
  refine .seq (run_reg ?_)
  refine e_clr ?_
  refine ez [(0, _), (1, _), (2, _), (3, _)] ⟨(keep_clear (pk := [3]) h0 rfl (map_agg (maps_cons mi (maps_cons me maps_nil)))), (keep_clear (pk := [3]) h1 rfl mi), (keep_clear (pk := [3]) h2 rfl mi), (gone_clear (pk := [3]) (t := 3) rfl)⟩ ?_
  rintro s ⟨h0, h1, h2, h3⟩
  refine g_box (.agg [(ji x_1.1), (Enc.enc (x_1.2 : List (Int × Int)))]) (rd_of h0 rfl) h3 rfl ?_
  refine g0 (jb false) fun h6 => ?_
  refine gq (.nsq (.seq (.seq (rg (g0 (ji 0) fun h7 => gq (.nsq (.block (.loop ?_))))))))
  exact t_f145_l1 H x_2 x_3 x_1 F 0 _ ⟨h1, h2, rfl, h6, h7⟩ h
end
def e145 (F : Nat) : Ent := ent 145 (fun (x : ((Int × (List (Int × Int))) × Int × Int × Unit)) => s_l2Near F x.1 x.2.1 x.2.2.1) (fun (r : Bool) => (Enc.enc (r : Bool))) 0 false []
theorem p145 {F : Nat} {x0 : (Int × (List (Int × Int)))} {x1 : Int} {x2 : Int} {r : Bool} (h : s_l2Near F x0 x1 x2 = some r) : (e145 F).den [Enc.enc x0, Enc.enc x1, Enc.enc x2] = some (Enc.enc (r : Bool)) := ent_put (x0, x1, x2, ()) h
theorem o145 {D : Den} {σ : Sig} {F : Nat} (hF : Fits2 Try.prog D σ) (H : H145 D σ F) : (e145 F).Ok Try.prog := by
  refine ok_of (f := 145) (show unk 145 = 145 from rfl) (fun args r h => ?_) ⟨Try.f145, Try.func145, rfl, rfl⟩
  obtain ⟨⟨x0, x1, x2, _⟩, y, rfl, hy, rfl⟩ := da_open h
  exact contract_run hF (by kernel_rfl) Try.func145 rfl c145 (show 3 ≤ Try.f145.ntmps by decide) (t145 H x0 x1 x2 _ ⟨rfl, rfl, rfl⟩ hy)
/- loop.example/g01109/spec.l1Put -/
def A146_1 : AC := (.cond (.t 31) (.seq (.reg [] [(jm 32 0), (jm 4 32)] []) .ret) .skip)
def A146_2 : AC := (.seq (.reg [.clr [33, 37, 39, 40, 44]] [(.mk (some 33) none true (.lit (.int .i64 (.ofNat 0)) 0 [])), (jm 34 0), (jm 35 5), ((jv 36 (.slice (.t 34) none (some (.t 35)) 1))), (.mk (some 37) none true (.appS .s (.t 33) (.t 36))), (jm 38 1), (.mk (some 39) none false (.lit (.int .i64 (.ofNat 0)) 1 [(0, 0, (.t 38))])), (.mk (some 40) none true (.appS .s (.t 37) (.t 39))), (jm 41 0), (jm 42 5), ((jv 43 (.slice (.t 41) (some (.t 42)) none 1))), (.mk (some 44) none false (.appS .s (.t 40) (.t 43))), (jm 4 44)] [.home 44 4]) .ret)
def A146_4 : AC := (.cond (.t 17) .skip (.exit 0))
def A146_5 : AC := (.block 1 (.reg [] [(jm 18 5), ((jv 19 (.bin .add (.t 18) (jn 1)))), (jm 5 19)] []))
def A146_3 : AC := (.seq (.seq (.reg [] [(jm 6 5), (jm 7 0), ((jv 8 (.len (.t 7)))), ((jv 9 (.bin .lss (.t 6) (.t 8)))), (jm 10 9), ((jg 11 10 true (.mov (.t 0)))), ((jg 12 10 true (.mov (.t 5)))), ((jg 13 10 true (.idx (.t 11) (.t 12) 1))), ((jg 14 10 true (.load .s (.t 13)))), ((jg 15 10 true (.mov (.t 1)))), ((jg 16 10 true (.bin .lss (.t 14) (.t 15)))), ((jv 17 (.pick (.t 10) (.t 16) (.k (.bool false)))))] []) A146_4) A146_5)
def A146_6 : AC := (.seq (.seq (.reg [] [(jm 20 5), (jm 21 0), ((jv 22 (.len (.t 21)))), ((jv 23 (.bin .lss (.t 20) (.t 22)))), (jm 24 23), ((jg 25 24 true (.mov (.t 0)))), ((jg 26 24 true (.mov (.t 5)))), ((jg 27 24 true (.idx (.t 25) (.t 26) 1))), ((jg 28 24 true (.load .s (.t 27)))), ((jg 29 24 true (.mov (.t 1)))), ((jg 30 24 true (.bin .eql (.t 28) (.t 29)))), ((jv 31 (.pick (.t 24) (.t 30) (.k (.bool false)))))] []) A146_1) A146_2)
def A146_8 : AC := (.seq (.block 0 (.loop A146_3)) A146_6)
def A146_7 : AC := (.seq (.reg [] [((jv 5 (.mov (jn 0))))] []) A146_8)
def A146 : AC := (.seq (.reg [] [((jv 4 (.mov (.k (.sl .nl .s 0 [])))))] []) A146_7)
def an146 : List An := [{ id := 6, pre := [.clr [33, 37, 39, 40, 44]], ep := [.home 44 4], lin := [0, 4, 7], sp := [4, 7, 11] }]
theorem c146 : cC Try.prog Try.f146.ntmps an146 (Try.f146.body.getD .skip) = some A146 := by kernel_rfl
structure H146 (D : Den) (σ : Sig) (F : Nat) : Prop where
  mk ::
abbrev R146 (r : (List Int)) : (Nat → V) → Prop := RR Try.prog [.tmp 4] 0 true (Enc.enc (r : (List Int)))
section
variable {D : Den} {σ : Sig} {F : Nat} {r : (List Int)}
def s_l1Put_j1 (F : Nat) (x_1 : (List Int)) (x_2 : Int) (x_6 : Int)  (x_13 : Bool) : Option (List Int) :=
  bif x_13 then
    some x_1
  else
    (sub x_1 0 x_6).bind fun sub_14 =>
    (appL [] sub_14).bind fun ap_15 =>
    (appL ap_15 [x_2]).bind fun ap_16 =>
    (sub x_1 x_6 (x_1.length : Int)).bind fun sub_17 =>
    (appL ap_16 sub_17).bind fun ap_18 =>
    some ap_18
theorem t_f146_j1 (H : H146 D σ F) (x_1 : (List Int)) (x_2 : Int) (x_6 : Int)  (x_13 : Bool) (s : Nat → V) (hs : Facts [(0, (eL x_1)), (1, (ji x_2)), (4, (.sl .nl (Enc.shp Int) 0 [])), (5, (ji x_6)), (31, (jb x_13))] s) (h : s_l1Put_j1 F x_1 x_2 x_6  x_13 = some r) : Run D σ (R146 r) (.nrm [.sq A146_1, .sq A146_2]) s := by
  unfold s_l1Put_j1 at h
  obtain ⟨h0, h1, h4, h5, h31⟩ := hs
  refine .nsq (run_cond (t := x_13) h31 h (fun h => ?_) (fun h => ?_))
  · refine .seq (rg (gm h0 fun h32 => gm h32 fun h4 => gq (.nsq (.ret ?_))))
    have hr := Option.some.inj h
    subst hr
    exact rrA (res_tmp h4) (fin_ret1 (fin_enc (x := (x_1 : (List Int)))))
  refine .skip (.nsq (.seq (run_reg ?_)))
  refine e_clr ?_
  refine ez [(0, _), (1, _), (4, _), (5, _), (33, _), (37, _), (39, _), (40, _), (44, _)] ⟨(keep_clear (pk := [33, 37, 39, 40, 44]) h0 rfl me), (keep_clear (pk := [33, 37, 39, 40, 44]) h1 rfl mi), (keep_clear (pk := [33, 37, 39, 40, 44]) h4 rfl rfl), (keep_clear (pk := [33, 37, 39, 40, 44]) h5 rfl mi), (gone_clear (pk := [33, 37, 39, 40, 44]) (t := 33) rfl), (gone_clear (pk := [33, 37, 39, 40, 44]) (t := 37) rfl), (gone_clear (pk := [33, 37, 39, 40, 44]) (t := 39) rfl), (gone_clear (pk := [33, 37, 39, 40, 44]) (t := 40) rfl), (gone_clear (pk := [33, 37, 39, 40, 44]) (t := 44) rfl)⟩ ?_
  rintro s ⟨h0, h1, h4, h5, h33, h37, h39, h40, h44⟩
  refine g_litLl [] [] trivial rfl rfl h33 ?_
  refine gm h0 fun h34 => gm h5 fun h35 => ?_
  obtain ⟨sub_14, E_sub_14, h⟩ := bind_some h
  refine gv (eL sub_14) (ev_slice (xs := x_1) h34 (optI_none) (optI_some h35) E_sub_14 rfl) fun h36 => ?_
  obtain ⟨ap_15, E_ap_15, h⟩ := bind_some h
  refine g_appS (p := []) (xs := []) (ys := (sub_14 : List Int)) (t2 := .sh) (lo2 := 0) rfl h36 rfl h37 rfl E_ap_15 ?_
  refine gm h1 fun h38 => g_litL [(38, (ji x_2))] [Enc.enc (x_2 : Int)] h38 rfl rfl h39 ?_
  obtain ⟨ap_16, E_ap_16, h⟩ := bind_some h
  refine g_appS (p := []) (xs := ap_15) (ys := ([x_2] : List Int)) (t2 := (.at 39 [])) (lo2 := 0) rfl rfl rfl h40 rfl E_ap_16 ?_
  refine gm h0 fun h41 => gm h5 fun h42 => ?_
  obtain ⟨sub_17, E_sub_17, h⟩ := bind_some h
  refine gv (eL sub_17) (ev_slice (xs := x_1) h41 (optI_some h42) (optI_none) E_sub_17 rfl) fun h43 => ?_
  obtain ⟨ap_18, E_ap_18, h⟩ := bind_some h
  refine g_appS (p := []) (xs := ap_16) (ys := (sub_17 : List Int)) (t2 := .sh) (lo2 := 0) rfl h43 rfl h44 rfl E_ap_18 ?_
  refine gm (rfl : (_ : V) = (oI 44 [] (.of ap_18))) fun h4 => ?_
  refine g_end ?_
  refine e_home (r := 44) (x := 4) (v := _) h4 rfl (fun s_2 hg_2 => ?_)
  refine ez [(4, (oI 4 [] (.of ap_18)))] (hg_2 4 _ _ h4 (map_encO (r := 44) (p := []) rfl rfl)) ?_
  rintro s h4
  refine .nsq (.ret ?_)
  have hr := Option.some.inj h
  subst hr
  exact rrA (res_tmp h4) (fin_ret1 (fin_own (o := .of ap_18)))
def s_l1Put_j2 (F : Nat) (x_1 : (List Int)) (x_2 : Int) (x_6 : Int) (c1 : Int → Option (List Int)) (x_11 : Bool) : Option (List Int) :=
  bif x_11 then
    c1 (w64 (x_6 + 1))
  else
    bif decide (x_6 < (x_1.length : Int)) then
      (idx x_1 x_6).bind fun e_19 =>
      s_l1Put_j1 F x_1 x_2 x_6 (e_19 == x_2)
    else
      s_l1Put_j1 F x_1 x_2 x_6 false
theorem t_f146_j2 (H : H146 D σ F) (x_1 : (List Int)) (x_2 : Int) (x_6 : Int) (c1 : Int → Option (List Int)) (Hc1 : ∀ (x_6 : Int) (s : Nat → V), Facts [(0, (eL x_1)), (1, (ji x_2)), (4, (.sl .nl (Enc.shp Int) 0 [])), (5, (ji x_6))] s → c1 x_6 = some r → Run D σ (R146 r) (.run A146_3 [.lp A146_3, .bk 0, .sq A146_6]) s) (x_11 : Bool) (s : Nat → V) (hs : Facts [(0, (eL x_1)), (1, (ji x_2)), (4, (.sl .nl (Enc.shp Int) 0 [])), (5, (ji x_6)), (17, (jb x_11))] s) (h : s_l1Put_j2 F x_1 x_2 x_6 c1 x_11 = some r) : Run D σ (R146 r) (.nrm [.sq A146_4, .sq A146_5, .lp A146_3, .bk 0, .sq A146_6]) s := by
  unfold s_l1Put_j2 at h
  obtain ⟨h0, h1, h4, h5, h17⟩ := hs
  refine .nsq (run_cond (t := x_11) h17 h (fun h => ?_) (fun h => ?_))
  · refine .skip (.nsq (.block (rg (gm h5 fun h18 => g1 18 (ji (w64 (x_6 + 1))) h18 fun h19 => ?_))))
    refine gm h19 fun h5 => gq (.nbk (.nlp ?_))
    exact Hc1 (w64 (x_6 + 1)) _ ⟨h0, h1, h4, h5⟩ h
  refine .exit (.esq (.elp (.ebk (.nsq (.seq (.seq (rg (gm h5 fun h20 => gm h0 fun h21 => gv (ji (x_1.length : Int)) (ev_len (xs := x_1) h21) fun h22 => ?_))))))))
  refine g2 20 22 (jb (decide (x_6 < (x_1.length : Int)))) h20 h22 fun h23 => ?_
  refine gm h23 fun h24 => split_on (c := decide (x_6 < (x_1.length : Int))) h (fun hg5 h => ?_) (fun hg5 h => ?_)
  · refine g_yes (h24.trans (congrArg V.bool hg5)) (gm h0 fun h25 => ?_)
    refine g_yes (h24.trans (congrArg V.bool hg5)) (gm h5 fun h26 => ?_)
    obtain ⟨e_19, E_e_19, h⟩ := bind_some h
    refine g_yes (h24.trans (congrArg V.bool hg5)) (gv (.ref .sh 0 [] (ji e_19)) (ev_idx (t := .sh) (lo := 0) (xs := x_1) h25 h26 E_e_19 rfl rfl) fun h27 => ?_)
    refine g_yes (h24.trans (congrArg V.bool hg5)) (g1 27 (ji e_19) h27 fun h28 => ?_)
    refine g_yes (h24.trans (congrArg V.bool hg5)) (gm h1 fun h29 => ?_)
    refine g_yes (h24.trans (congrArg V.bool hg5)) (g2 28 29 (jb (e_19 == x_2)) h28 h29 fun h30 => ?_)
    refine g2 24 30 (jb (e_19 == x_2)) (h24.trans (congrArg V.bool hg5)) h30 fun h31 => ?_
    refine gq ?_
    exact t_f146_j1 H x_1 x_2 x_6 (e_19 == x_2) _ ⟨h0, h1, h4, h5, h31⟩ h
  refine g_no (h24.trans (congrArg V.bool hg5)) ?_
  refine g_no (h24.trans (congrArg V.bool hg5)) ?_
  refine g_no (h24.trans (congrArg V.bool hg5)) ?_
  refine g_no (h24.trans (congrArg V.bool hg5)) ?_
  refine g_no (h24.trans (congrArg V.bool hg5)) ?_
  refine g_no (h24.trans (congrArg V.bool hg5)) ?_
  refine g2 24 30 (jb false) (h24.trans (congrArg V.bool hg5)) (rfl : (_ : V) = (.tup [])) fun h31 => ?_
  refine gq ?_
  exact t_f146_j1 H x_1 x_2 x_6 false _ ⟨h0, h1, h4, h5, h31⟩ h
def s_l1Put_l1 (F : Nat) (x_1 : (List Int)) (x_2 : Int)  : Nat → Int → Option (List Int)
  | 0, _ => none
  | k + 1, x_6 =>
    bif decide (x_6 < (x_1.length : Int)) then
      (idx x_1 x_6).bind fun e_20 =>
      s_l1Put_j2 F x_1 x_2 x_6 (s_l1Put_l1 F x_1 x_2 k) (decide (e_20 < x_2))
    else
      s_l1Put_j2 F x_1 x_2 x_6 (s_l1Put_l1 F x_1 x_2 k) false
theorem t_f146_l1 (H : H146 D σ F) (x_1 : (List Int)) (x_2 : Int)  : ∀ (k : Nat) (x_6 : Int) (s : Nat → V), Facts [(0, (eL x_1)), (1, (ji x_2)), (4, (.sl .nl (Enc.shp Int) 0 [])), (5, (ji x_6))] s → s_l1Put_l1 F x_1 x_2 k x_6 = some r → Run D σ (R146 r) (.run A146_3 [.lp A146_3, .bk 0, .sq A146_6]) s := by
  intro k
  induction k with
  | zero => intro x_6 s _ h; exact nomatch (h : (none : Option _) = some r)
  | succ k ih =>
    intro x_6 s hs h
    rw [s_l1Put_l1] at h
    obtain ⟨h0, h1, h4, h5⟩ := hs
    refine .seq (.seq (rg (gm h5 fun h6 => gm h0 fun h7 => gv (ji (x_1.length : Int)) (ev_len (xs := x_1) h7) fun h8 => ?_)))
    refine g2 6 8 (jb (decide (x_6 < (x_1.length : Int)))) h6 h8 fun h9 => ?_
    refine gm h9 fun h10 => split_on (c := decide (x_6 < (x_1.length : Int))) h (fun hg5 h => ?_) (fun hg5 h => ?_)
    · refine g_yes (h10.trans (congrArg V.bool hg5)) (gm h0 fun h11 => ?_)
      refine g_yes (h10.trans (congrArg V.bool hg5)) (gm h5 fun h12 => ?_)
      obtain ⟨e_20, E_e_20, h⟩ := bind_some h
      refine g_yes (h10.trans (congrArg V.bool hg5)) (gv (.ref .sh 0 [] (ji e_20)) (ev_idx (t := .sh) (lo := 0) (xs := x_1) h11 h12 E_e_20 rfl rfl) fun h13 => ?_)
      refine g_yes (h10.trans (congrArg V.bool hg5)) (g1 13 (ji e_20) h13 fun h14 => ?_)
      refine g_yes (h10.trans (congrArg V.bool hg5)) (gm h1 fun h15 => ?_)
      refine g_yes (h10.trans (congrArg V.bool hg5)) (g2 14 15 (jb (decide (e_20 < x_2))) h14 h15 fun h16 => ?_)
      refine g2 10 16 (jb (decide (e_20 < x_2))) (h10.trans (congrArg V.bool hg5)) h16 fun h17 => ?_
      refine gq ?_
      exact t_f146_j2 H x_1 x_2 x_6 (s_l1Put_l1 F x_1 x_2 k) ih (decide (e_20 < x_2)) _ ⟨h0, h1, h4, h5, h17⟩ h
    refine g_no (h10.trans (congrArg V.bool hg5)) ?_
    refine g_no (h10.trans (congrArg V.bool hg5)) ?_
    refine g_no (h10.trans (congrArg V.bool hg5)) ?_
    refine g_no (h10.trans (congrArg V.bool hg5)) ?_
    refine g_no (h10.trans (congrArg V.bool hg5)) ?_
    refine g_no (h10.trans (congrArg V.bool hg5)) ?_
    refine g2 10 16 (jb false) (h10.trans (congrArg V.bool hg5)) (rfl : (_ : V) = (.tup [])) fun h17 => ?_
    refine gq ?_
    exact t_f146_j2 H x_1 x_2 x_6 (s_l1Put_l1 F x_1 x_2 k) ih false _ ⟨h0, h1, h4, h5, h17⟩ h
def s_l1Put (F : Nat) (x_1 : (List Int)) (x_2 : Int) : Option (List Int) :=
  s_l1Put_l1 F x_1 x_2 F 0
theorem t146 (H : H146 D σ F) (x_1 : (List Int)) (x_2 : Int) (s : Nat → V) (hs : Facts [(0, (eL x_1)), (1, (ji x_2))] s) (h : s_l1Put F x_1 x_2 = some r) : Run D σ (R146 r) (.run A146 []) s := by
  unfold s_l1Put at h
  obtain ⟨h0, h1⟩ := hs
  refine .seq (rg (g0 (.sl .nl (Enc.shp Int) 0 []) fun h4 => ?_))
  refine gq (.nsq (.seq (rg (g0 (ji 0) fun h5 => gq (.nsq (.seq (.block (.loop ?_))))))))
  exact t_f146_l1 H x_1 x_2 F 0 _ ⟨h0, h1, h4, h5⟩ h
end
def e146 (F : Nat) : Ent := ent 146 (fun (x : ((List Int) × Int × Unit)) => s_l1Put F x.1 x.2.1) (fun (r : (List Int)) => (Enc.enc (r : (List Int)))) 0 true []
theorem p146 {F : Nat} {x0 : (List Int)} {x1 : Int} {r : (List Int)} (h : s_l1Put F x0 x1 = some r) : (e146 F).den [Enc.enc x0, Enc.enc x1] = some (Enc.enc (r : (List Int))) := ent_put (x0, x1, ()) h
theorem o146 {D : Den} {σ : Sig} {F : Nat} (hF : Fits2 Try.prog D σ) (H : H146 D σ F) : (e146 F).Ok Try.prog := by
  refine ok_of (f := 146) (show unk 146 = 146 from rfl) (fun args r h => ?_) ⟨Try.f146, Try.func146, rfl, rfl⟩
  obtain ⟨⟨x0, x1, _⟩, y, rfl, hy, rfl⟩ := da_open h
  exact contract_run hF (by kernel_rfl) Try.func146 rfl c146 (show 2 ≤ Try.f146.ntmps by decide) (t146 H x0 x1 _ ⟨rfl, rfl⟩ hy)
/- loop.example/g01109/spec.l2Reach -/
def A179_2 : AC := (.cond (.t 16) .skip (.exit 0))
def A179_6 : AC := (.cond (.t 22) .skip (.exit 2))
def A179_10 : AC := (.cond (.t 37) .skip (.exit 4))
def A179_12 : AC := (.cond (.t 49) (.reg [.frz 7] [(jm 50 7), (jm 51 1), (jm 52 9), ((jv 53 (.idx (.t 51) (.t 52) 1))), ((jv 54 (.load .s (.t 53)))), (.mk (some 55) none false (.call (.k (.fn 146 [] [])) [(.t 50), (.t 54)])), (jm 7 55)] []) .skip)
def A179_13 : AC := (.reg [] [(jm 38 10), ((jv 39 (.bin .add (.t 38) (jn 1)))), (jm 10 39)] [])
def A179_11 : AC := (.seq (.block 5 (.seq (.reg [] [((jv 40 (.load (.ag [.s, .p]) (.t 3)))), (jm 41 7), (jm 42 10), ((jv 43 (.idx (.t 41) (.t 42) 1))), ((jv 44 (.load .s (.t 43)))), (jm 45 1), (jm 46 9), ((jv 47 (.idx (.t 45) (.t 46) 1))), ((jv 48 (.load .s (.t 47)))), (.mk (some 49) none false (.call (.k (.fn 145 [] [])) [(.t 40), (.t 44), (.t 48)]))] []) A179_12)) A179_13)
def A179_9 : AC := (.seq (.seq (.reg [] [(jm 25 10), (jm 26 7), ((jv 27 (.len (.t 26)))), ((jv 28 (.bin .lss (.t 25) (.t 27)))), (jm 29 28), ((jg 30 29 true (.mov (.t 7)))), ((jg 31 29 true (.mov (.t 1)))), ((jg 32 29 true (.mov (.t 9)))), ((jg 33 29 true (.idx (.t 31) (.t 32) 1))), ((jg 34 29 true (.load .s (.t 33)))), (.mk (some 35) (some (29, true)) false (.call (.k (.fn 74 [] [])) [(.t 30), (.t 34)])), ((jg 36 29 true (.un .not (.t 35)))), ((jv 37 (.pick (.t 29) (.t 36) (.k (.bool false)))))] []) A179_10) A179_11)
def A179_8 : AC := (.block 4 (.loop A179_9))
def A179_14 : AC := (.reg [] [(jm 23 9), ((jv 24 (.bin .add (.t 23) (jn 1)))), (jm 9 24)] [])
def A179_7 : AC := (.seq (.block 3 (.seq (.reg [] [((jv 10 (.mov (jn 0))))] []) A179_8)) A179_14)
def A179_5 : AC := (.seq (.seq (.reg [] [(jm 19 9), (jm 20 1), ((jv 21 (.len (.t 20)))), ((jv 22 (.bin .lss (.t 19) (.t 21))))] []) A179_6) A179_7)
def A179_4 : AC := (.block 2 (.loop A179_5))
def A179_15 : AC := (.reg [] [(jm 17 8), ((jv 18 (.bin .add (.t 17) (jn 1)))), (jm 8 18)] [])
def A179_3 : AC := (.seq (.block 1 (.seq (.reg [] [((jv 9 (.mov (jn 0))))] []) A179_4)) A179_15)
def A179_1 : AC := (.seq (.seq (.reg [] [(jm 13 8), (jm 14 1), ((jv 15 (.len (.t 14)))), ((jv 16 (.bin .lss (.t 13) (.t 15))))] []) A179_2) A179_3)
def A179_16 : AC := (.seq (.reg [] [(jm 56 7), (jm 6 56)] []) .ret)
def A179_19 : AC := (.block 0 (.loop A179_1))
def A179_18 : AC := (.seq (.seq (.reg [] [((jv 8 (.mov (jn 0))))] []) A179_19) A179_16)
def A179_17 : AC := (.seq (.reg [.clr [12]] [(jm 11 2), (.mk (some 12) none false (.lit (.int .i64 (.ofNat 0)) 1 [(0, 0, (.t 11))])), (jm 7 12)] [.home 12 7, .frz 7]) A179_18)
def A179 : AC := (.seq (.reg [.clr [3]] [(.mk (some 3) none false (.box (.t 0))), ((jv 6 (.mov (.k (.sl .nl .s 0 [])))))] []) A179_17)
def an179 : List An := [{ id := 0, pre := [.clr [3]], ep := [], lin := [], sp := [] }, { id := 1, pre := [.clr [12]], ep := [.home 12 7, .frz 7], lin := [], sp := [] }, { id := 12, pre := [.frz 7], ep := [], lin := [], sp := [] }]
theorem c179 : cC Try.prog Try.f179.ntmps an179 (Try.f179.body.getD .skip) = some A179 := by kernel_rfl
structure H179 (D : Den) (σ : Sig) (F : Nat) : Prop where
  c74 : ∀ (x0 : (List Int)) (x1 : Int) r, s_l1Has F x0 x1 = some r → D 74 [Enc.enc x0, Enc.enc x1] = some (Enc.enc (r : Bool))
  g74 : σ 74 = some (0, false)
  c145 : ∀ (x0 : (Int × (List (Int × Int)))) (x1 : Int) (x2 : Int) r, s_l2Near F x0 x1 x2 = some r → D 145 [Enc.enc x0, Enc.enc x1, Enc.enc x2] = some (Enc.enc (r : Bool))
  g145 : σ 145 = some (0, false)
  c146 : ∀ (x0 : (List Int)) (x1 : Int) r, s_l1Put F x0 x1 = some r → D 146 [Enc.enc x0, Enc.enc x1] = some (Enc.enc (r : (List Int)))
  g146 : σ 146 = some (0, true)
abbrev R179 (r : (List Int)) : (Nat → V) → Prop := RR Try.prog [.tmp 6] 0 true (Enc.enc (r : (List Int)))
section
variable {D : Den} {σ : Sig} {F : Nat} {r : (List Int)}
def s_l2Reach_j1 (F : Nat) (x_2 : (List Int)) (x_1 : (Int × (List (Int × Int)))) (x_130 : Int) (x_298 : Int) (x_354 : Int) (c1 : (List Int) → Int → Option (List Int)) (c10 : (List Int) → Int → Option (List Int)) (c13 : (List Int) → Int → Option (List Int)) (x_376 : (List Int)) : Option (List Int) :=
  c13 x_376 (w64 (x_354 + 1))
theorem t_f179_j1 (H : H179 D σ F) (x_2 : (List Int)) (x_1 : (Int × (List (Int × Int)))) (x_130 : Int) (x_298 : Int) (x_354 : Int) (c1 : (List Int) → Int → Option (List Int)) (Hc1 : ∀ (x_129 : (List Int)) (x_130 : Int) (s : Nat → V), Facts [(1, (eL x_2)), (3, (.ref (.bx 3) 0 [] (.agg [(ji x_1.1), (Enc.enc (x_1.2 : List (Int × Int)))]))), (6, (.sl .nl (Enc.shp Int) 0 [])), (7, (eL x_129)), (8, (ji x_130))] s → c1 x_129 x_130 = some r → Run D σ (R179 r) (.run A179_1 [.lp A179_1, .bk 0, .sq A179_16]) s) (c10 : (List Int) → Int → Option (List Int)) (Hc10 : ∀ (x_297 : (List Int)) (x_298 : Int) (s : Nat → V), Facts [(1, (eL x_2)), (3, (.ref (.bx 3) 0 [] (.agg [(ji x_1.1), (Enc.enc (x_1.2 : List (Int × Int)))]))), (6, (.sl .nl (Enc.shp Int) 0 [])), (7, (eL x_297)), (8, (ji x_130)), (9, (ji x_298))] s → c10 x_297 x_298 = some r → Run D σ (R179 r) (.run A179_5 [.lp A179_5, .bk 2, .bk 1, .sq A179_15, .lp A179_1, .bk 0, .sq A179_16]) s) (c13 : (List Int) → Int → Option (List Int)) (Hc13 : ∀ (x_353 : (List Int)) (x_354 : Int) (s : Nat → V), Facts [(1, (eL x_2)), (3, (.ref (.bx 3) 0 [] (.agg [(ji x_1.1), (Enc.enc (x_1.2 : List (Int × Int)))]))), (6, (.sl .nl (Enc.shp Int) 0 [])), (7, (eL x_353)), (8, (ji x_130)), (9, (ji x_298)), (10, (ji x_354))] s → c13 x_353 x_354 = some r → Run D σ (R179 r) (.run A179_9 [.lp A179_9, .bk 4, .bk 3, .sq A179_14, .lp A179_5, .bk 2, .bk 1, .sq A179_15, .lp A179_1, .bk 0, .sq A179_16]) s) (x_376 : (List Int)) (s : Nat → V) (hs : Facts [(1, (eL x_2)), (3, (.ref (.bx 3) 0 [] (.agg [(ji x_1.1), (Enc.enc (x_1.2 : List (Int × Int)))]))), (6, (.sl .nl (Enc.shp Int) 0 [])), (7, (eL x_376)), (8, (ji x_130)), (9, (ji x_298)), (10, (ji x_354))] s) (h : s_l2Reach_j1 F x_2 x_1 x_130 x_298 x_354 c1 c10 c13 x_376 = some r) : Run D σ (R179 r) (.nrm [.bk 5, .sq A179_13, .lp A179_9, .bk 4, .bk 3, .sq A179_14, .lp A179_5, .bk 2, .bk 1, .sq A179_15, .lp A179_1, .bk 0, .sq A179_16]) s := by
  unfold s_l2Reach_j1 at h
  obtain ⟨h1, h3, h6, h7, h8, h9, h10⟩ := hs
  refine .nbk (.nsq (rg (gm h10 fun h38 => g1 38 (ji (w64 (x_354 + 1))) h38 fun h39 => ?_)))
  refine gm h39 fun h10 => gq (.nlp ?_)
  exact Hc13 x_376 (w64 (x_354 + 1)) _ ⟨h1, h3, h6, h7, h8, h9, h10⟩ h
def s_l2Reach_j2 (F : Nat) (x_2 : (List Int)) (x_1 : (Int × (List (Int × Int)))) (x_353 : (List Int)) (x_130 : Int) (x_298 : Int) (x_354 : Int) (c1 : (List Int) → Int → Option (List Int)) (c10 : (List Int) → Int → Option (List Int)) (c13 : (List Int) → Int → Option (List Int)) (x_370 : Bool) : Option (List Int) :=
  bif x_370 then
    (idx x_353 x_354).bind fun e_371 =>
    (idx x_2 x_298).bind fun e_372 =>
    (s_l2Near F x_1 e_371 e_372).bind fun r_373 =>
    bif r_373 then
      (idx x_2 x_298).bind fun e_377 =>
      (s_l1Put F x_353 e_377).bind fun r_378 =>
      s_l2Reach_j1 F x_2 x_1 x_130 x_298 x_354 c1 c10 c13 r_378
    else
      s_l2Reach_j1 F x_2 x_1 x_130 x_298 x_354 c1 c10 c13 x_353
  else
    c10 x_353 (w64 (x_298 + 1))
theorem t_f179_j2 (H : H179 D σ F) (x_2 : (List Int)) (x_1 : (Int × (List (Int × Int)))) (x_353 : (List Int)) (x_130 : Int) (x_298 : Int) (x_354 : Int) (c1 : (List Int) → Int → Option (List Int)) (Hc1 : ∀ (x_129 : (List Int)) (x_130 : Int) (s : Nat → V), Facts [(1, (eL x_2)), (3, (.ref (.bx 3) 0 [] (.agg [(ji x_1.1), (Enc.enc (x_1.2 : List (Int × Int)))]))), (6, (.sl .nl (Enc.shp Int) 0 [])), (7, (eL x_129)), (8, (ji x_130))] s → c1 x_129 x_130 = some r → Run D σ (R179 r) (.run A179_1 [.lp A179_1, .bk 0, .sq A179_16]) s) (c10 : (List Int) → Int → Option (List Int)) (Hc10 : ∀ (x_297 : (List Int)) (x_298 : Int) (s : Nat → V), Facts [(1, (eL x_2)), (3, (.ref (.bx 3) 0 [] (.agg [(ji x_1.1), (Enc.enc (x_1.2 : List (Int × Int)))]))), (6, (.sl .nl (Enc.shp Int) 0 [])), (7, (eL x_297)), (8, (ji x_130)), (9, (ji x_298))] s → c10 x_297 x_298 = some r → Run D σ (R179 r) (.run A179_5 [.lp A179_5, .bk 2, .bk 1, .sq A179_15, .lp A179_1, .bk 0, .sq A179_16]) s) (c13 : (List Int) → Int → Option (List Int)) (Hc13 : ∀ (x_353 : (List Int)) (x_354 : Int) (s : Nat → V), Facts [(1, (eL x_2)), (3, (.ref (.bx 3) 0 [] (.agg [(ji x_1.1), (Enc.enc (x_1.2 : List (Int × Int)))]))), (6, (.sl .nl (Enc.shp Int) 0 [])), (7, (eL x_353)), (8, (ji x_130)), (9, (ji x_298)), (10, (ji x_354))] s → c13 x_353 x_354 = some r → Run D σ (R179 r) (.run A179_9 [.lp A179_9, .bk 4, .bk 3, .sq A179_14, .lp A179_5, .bk 2, .bk 1, .sq A179_15, .lp A179_1, .bk 0, .sq A179_16]) s) (x_370 : Bool) (s : Nat → V) (hs : Facts [(1, (eL x_2)), (3, (.ref (.bx 3) 0 [] (.agg [(ji x_1.1), (Enc.enc (x_1.2 : List (Int × Int)))]))), (6, (.sl .nl (Enc.shp Int) 0 [])), (7, (eL x_353)), (8, (ji x_130)), (9, (ji x_298)), (10, (ji x_354)), (37, (jb x_370))] s) (h : s_l2Reach_j2 F x_2 x_1 x_353 x_130 x_298 x_354 c1 c10 c13 x_370 = some r) : Run D σ (R179 r) (.nrm [.sq A179_10, .sq A179_11, .lp A179_9, .bk 4, .bk 3, .sq A179_14, .lp A179_5, .bk 2, .bk 1, .sq A179_15, .lp A179_1, .bk 0, .sq A179_16]) s := by
  unfold s_l2Reach_j2 at h
  obtain ⟨h1, h3, h6, h7, h8, h9, h10, h37⟩ := hs
  refine .nsq (run_cond (t := x_370) h37 h (fun h => ?_) (fun h => ?_))
  · refine .skip (.nsq (.seq (.block (.seq (rg (g1 3 (.agg [(ji x_1.1), (Enc.enc (x_1.2 : List (Int × Int)))]) h3 fun h40 => ?_))))))
    refine gm h7 fun h41 => gm h10 fun h42 => ?_
    obtain ⟨e_371, E_e_371, h⟩ := bind_some h
    refine gv (.ref .sh 0 [] (ji e_371)) (ev_idx (t := .sh) (lo := 0) (xs := x_353) h41 h42 E_e_371 rfl rfl) fun h43 => ?_
    refine g1 43 (ji e_371) h43 fun h44 => ?_
    refine gm h1 fun h45 => gm h9 fun h46 => ?_
    obtain ⟨e_372, E_e_372, h⟩ := bind_some h
    refine gv (.ref .sh 0 [] (ji e_372)) (ev_idx (t := .sh) (lo := 0) (xs := x_2) h45 h46 E_e_372 rfl rfl) fun h47 => ?_
    refine g1 47 (ji e_372) h47 fun h48 => ?_
    obtain ⟨r_373, E_r_373, h⟩ := bind_some h
    refine g_call (m := 0) (al := false) (r := (Enc.enc (r_373 : Bool))) [Enc.enc (x_1 : (Int × (List (Int × Int)))), Enc.enc (e_371 : Int), Enc.enc (e_372 : Int)] (ta_cons (v := (.agg [(ji x_1.1), (Enc.enc (x_1.2 : List (Int × Int)))])) h40 rfl (Enc.erase_enc (x_1 : (Int × (List (Int × Int))))) (ta_cons (v := (ji e_371)) h44 rfl rfl (ta_cons (v := (ji e_372)) h48 rfl rfl ta_nil))) (H.c145 _ _ _ _ E_r_373) H.g145 rfl rfl rfl rfl ?_
    refine gq (.nsq (run_cond (t := r_373) rfl h (fun h => ?_) (fun h => ?_)))
    · refine run_reg ?_
      refine e_frz (x := 7) (v := (eL x_353)) [] (by exact h7) (Enc.toks_enc (x_353 : List Int)) (fun s_58 hg_58 => ?_)
      refine ez [(1, _), (3, _), (6, _), (7, _), (8, _), (9, _), (10, _)] ⟨(hg_58 1 (eL x_2) (eL x_2) h1 (frz_none _)), (hg_58 3 (.ref (.bx 3) 0 [] (.agg [(ji x_1.1), (Enc.enc (x_1.2 : List (Int × Int)))])) (.ref (.bx 3) 0 [] (.agg [(ji x_1.1), (Enc.enc (x_1.2 : List (Int × Int)))])) h3 (frz_none _)), (hg_58 6 (.sl .nl (Enc.shp Int) 0 []) (.sl .nl (Enc.shp Int) 0 []) h6 (frz_none _)), (hg_58 7 (eL x_353) (eL x_353) h7 (frz_none _)), (hg_58 8 (ji x_130) (ji x_130) h8 (frz_none _)), (hg_58 9 (ji x_298) (ji x_298) h9 (frz_none _)), (hg_58 10 (ji x_354) (ji x_354) h10 (frz_none _))⟩ ?_
      rintro s ⟨h1, h3, h6, h7, h8, h9, h10⟩
      refine gm h7 fun h50 => gm h1 fun h51 => gm h9 fun h52 => ?_
      obtain ⟨e_377, E_e_377, h⟩ := bind_some h
      refine gv (.ref .sh 0 [] (ji e_377)) (ev_idx (t := .sh) (lo := 0) (xs := x_2) h51 h52 E_e_377 rfl rfl) fun h53 => ?_
      refine g1 53 (ji e_377) h53 fun h54 => ?_
      obtain ⟨r_378, E_r_378, h⟩ := bind_some h
      refine g_call (m := 0) (al := true) (r := (Enc.enc (r_378 : (List Int)))) [Enc.enc (x_353 : (List Int)), Enc.enc (e_377 : Int)] (ta_cons (v := (eL x_353)) h50 rfl (Enc.erase_enc (x_353 : (List Int))) (ta_cons (v := (ji e_377)) h54 rfl rfl ta_nil)) (H.c146 _ _ _ E_r_378) H.g146 (hal_of (ht_cons (v := (eL x_353)) h50 rfl rfl (ht_cons (v := (ji e_377)) h54 rfl rfl ht_nil))) rfl rfl rfl ?_
      refine gm (rfl : (_ : V) = (eL r_378)) fun h7 => ?_
      refine gq ?_
      exact t_f179_j1 H x_2 x_1 x_130 x_298 x_354 c1 Hc1 c10 Hc10 c13 Hc13 r_378 _ ⟨h1, h3, h6, h7, h8, h9, h10⟩ h
    refine .skip ?_
    exact t_f179_j1 H x_2 x_1 x_130 x_298 x_354 c1 Hc1 c10 Hc10 c13 Hc13 x_353 _ ⟨h1, h3, h6, h7, h8, h9, h10⟩ h
  refine .exit (.esq (.elp (.ebk (.nbk (.nsq (rg (gm h9 fun h23 => g1 23 (ji (w64 (x_298 + 1))) h23 fun h24 => ?_)))))))
  refine gm h24 fun h9 => gq (.nlp ?_)
  exact Hc10 x_353 (w64 (x_298 + 1)) _ ⟨h1, h3, h6, h7, h8, h9⟩ h
def s_l2Reach_l1 (F : Nat) (x_2 : (List Int)) (x_1 : (Int × (List (Int × Int)))) (x_130 : Int) (x_298 : Int) (c1 : (List Int) → Int → Option (List Int)) (c10 : (List Int) → Int → Option (List Int)) : Nat → (List Int) → Int → Option (List Int)
  | 0, _, _ => none
  | k + 1, x_353, x_354 =>
    bif decide (x_354 < (x_353.length : Int)) then
      (idx x_2 x_298).bind fun e_379 =>
      (s_l1Has F x_353 e_379).bind fun r_380 =>
      s_l2Reach_j2 F x_2 x_1 x_353 x_130 x_298 x_354 c1 c10 (s_l2Reach_l1 F x_2 x_1 x_130 x_298 c1 c10 k) (!r_380)
    else
      s_l2Reach_j2 F x_2 x_1 x_353 x_130 x_298 x_354 c1 c10 (s_l2Reach_l1 F x_2 x_1 x_130 x_298 c1 c10 k) false
theorem t_f179_l1 (H : H179 D σ F) (x_2 : (List Int)) (x_1 : (Int × (List (Int × Int)))) (x_130 : Int) (x_298 : Int) (c1 : (List Int) → Int → Option (List Int)) (Hc1 : ∀ (x_129 : (List Int)) (x_130 : Int) (s : Nat → V), Facts [(1, (eL x_2)), (3, (.ref (.bx 3) 0 [] (.agg [(ji x_1.1), (Enc.enc (x_1.2 : List (Int × Int)))]))), (6, (.sl .nl (Enc.shp Int) 0 [])), (7, (eL x_129)), (8, (ji x_130))] s → c1 x_129 x_130 = some r → Run D σ (R179 r) (.run A179_1 [.lp A179_1, .bk 0, .sq A179_16]) s) (c10 : (List Int) → Int → Option (List Int)) (Hc10 : ∀ (x_297 : (List Int)) (x_298 : Int) (s : Nat → V), Facts [(1, (eL x_2)), (3, (.ref (.bx 3) 0 [] (.agg [(ji x_1.1), (Enc.enc (x_1.2 : List (Int × Int)))]))), (6, (.sl .nl (Enc.shp Int) 0 [])), (7, (eL x_297)), (8, (ji x_130)), (9, (ji x_298))] s → c10 x_297 x_298 = some r → Run D σ (R179 r) (.run A179_5 [.lp A179_5, .bk 2, .bk 1, .sq A179_15, .lp A179_1, .bk 0, .sq A179_16]) s) : ∀ (k : Nat) (x_353 : (List Int)) (x_354 : Int) (s : Nat → V), Facts [(1, (eL x_2)), (3, (.ref (.bx 3) 0 [] (.agg [(ji x_1.1), (Enc.enc (x_1.2 : List (Int × Int)))]))), (6, (.sl .nl (Enc.shp Int) 0 [])), (7, (eL x_353)), (8, (ji x_130)), (9, (ji x_298)), (10, (ji x_354))] s → s_l2Reach_l1 F x_2 x_1 x_130 x_298 c1 c10 k x_353 x_354 = some r → Run D σ (R179 r) (.run A179_9 [.lp A179_9, .bk 4, .bk 3, .sq A179_14, .lp A179_5, .bk 2, .bk 1, .sq A179_15, .lp A179_1, .bk 0, .sq A179_16]) s := by
  intro k
  induction k with
  | zero => intro x_353 x_354 s _ h; exact nomatch (h : (none : Option _) = some r)
  | succ k ih =>
    intro x_353 x_354 s hs h
    rw [s_l2Reach_l1] at h
    obtain ⟨h1, h3, h6, h7, h8, h9, h10⟩ := hs
    refine .seq (.seq (rg (gm h10 fun h25 => gm h7 fun h26 => gv (ji (x_353.length : Int)) (ev_len (xs := x_353) h26) fun h27 => ?_)))
    refine g2 25 27 (jb (decide (x_354 < (x_353.length : Int)))) h25 h27 fun h28 => ?_
    refine gm h28 fun h29 => split_on (c := decide (x_354 < (x_353.length : Int))) h (fun hg5 h => ?_) (fun hg5 h => ?_)
    · refine g_yes (h29.trans (congrArg V.bool hg5)) (gm h7 fun h30 => ?_)
      refine g_yes (h29.trans (congrArg V.bool hg5)) (gm h1 fun h31 => ?_)
      refine g_yes (h29.trans (congrArg V.bool hg5)) (gm h9 fun h32 => ?_)
      obtain ⟨e_379, E_e_379, h⟩ := bind_some h
      refine g_yes (h29.trans (congrArg V.bool hg5)) (gv (.ref .sh 0 [] (ji e_379)) (ev_idx (t := .sh) (lo := 0) (xs := x_2) h31 h32 E_e_379 rfl rfl) fun h33 => ?_)
      refine g_yes (h29.trans (congrArg V.bool hg5)) (g1 33 (ji e_379) h33 fun h34 => ?_)
      obtain ⟨r_380, E_r_380, h⟩ := bind_some h
      refine g_yes (h29.trans (congrArg V.bool hg5)) (g_call (m := 0) (al := false) (r := (Enc.enc (r_380 : Bool))) [Enc.enc (x_353 : (List Int)), Enc.enc (e_379 : Int)] (ta_cons (v := (eL x_353)) h30 rfl (Enc.erase_enc (x_353 : (List Int))) (ta_cons (v := (ji e_379)) h34 rfl rfl ta_nil)) (H.c74 _ _ _ E_r_380) H.g74 rfl rfl rfl rfl ?_)
      refine g_yes (h29.trans (congrArg V.bool hg5)) (g1 35 (jb (!r_380)) (rfl : (_ : V) = (jb r_380)) fun h36 => ?_)
      refine g2 29 36 (jb (!r_380)) (h29.trans (congrArg V.bool hg5)) h36 fun h37 => ?_
      refine gq ?_
      exact t_f179_j2 H x_2 x_1 x_353 x_130 x_298 x_354 c1 Hc1 c10 Hc10 (s_l2Reach_l1 F x_2 x_1 x_130 x_298 c1 c10 k) ih (!r_380) _ ⟨h1, h3, h6, h7, h8, h9, h10, h37⟩ h
    refine g_no (h29.trans (congrArg V.bool hg5)) ?_
    refine g_no (h29.trans (congrArg V.bool hg5)) ?_
    refine g_no (h29.trans (congrArg V.bool hg5)) ?_
    refine g_no (h29.trans (congrArg V.bool hg5)) ?_
    refine g_no (h29.trans (congrArg V.bool hg5)) ?_
    refine g_no (h29.trans (congrArg V.bool hg5)) ?_
    refine g_no (h29.trans (congrArg V.bool hg5)) ?_
    refine g2 29 36 (jb false) (h29.trans (congrArg V.bool hg5)) (rfl : (_ : V) = (.tup [])) fun h37 => ?_
    refine gq ?_
    exact t_f179_j2 H x_2 x_1 x_353 x_130 x_298 x_354 c1 Hc1 c10 Hc10 (s_l2Reach_l1 F x_2 x_1 x_130 x_298 c1 c10 k) ih false _ ⟨h1, h3, h6, h7, h8, h9, h10, h37⟩ h
def s_l2Reach_l2 (F : Nat) (x_2 : (List Int)) (x_1 : (Int × (List (Int × Int)))) (x_130 : Int) (c1 : (List Int) → Int → Option (List Int)) : Nat → (List Int) → Int → Option (List Int)
  | 0, _, _ => none
  | k + 1, x_297, x_298 =>
    bif decide (x_298 < (x_2.length : Int)) then
      s_l2Reach_l1 F x_2 x_1 x_130 x_298 c1 (s_l2Reach_l2 F x_2 x_1 x_130 c1 k) F x_297 0
    else
      c1 x_297 (w64 (x_130 + 1))
theorem t_f179_l2 (H : H179 D σ F) (x_2 : (List Int)) (x_1 : (Int × (List (Int × Int)))) (x_130 : Int) (c1 : (List Int) → Int → Option (List Int)) (Hc1 : ∀ (x_129 : (List Int)) (x_130 : Int) (s : Nat → V), Facts [(1, (eL x_2)), (3, (.ref (.bx 3) 0 [] (.agg [(ji x_1.1), (Enc.enc (x_1.2 : List (Int × Int)))]))), (6, (.sl .nl (Enc.shp Int) 0 [])), (7, (eL x_129)), (8, (ji x_130))] s → c1 x_129 x_130 = some r → Run D σ (R179 r) (.run A179_1 [.lp A179_1, .bk 0, .sq A179_16]) s) : ∀ (k : Nat) (x_297 : (List Int)) (x_298 : Int) (s : Nat → V), Facts [(1, (eL x_2)), (3, (.ref (.bx 3) 0 [] (.agg [(ji x_1.1), (Enc.enc (x_1.2 : List (Int × Int)))]))), (6, (.sl .nl (Enc.shp Int) 0 [])), (7, (eL x_297)), (8, (ji x_130)), (9, (ji x_298))] s → s_l2Reach_l2 F x_2 x_1 x_130 c1 k x_297 x_298 = some r → Run D σ (R179 r) (.run A179_5 [.lp A179_5, .bk 2, .bk 1, .sq A179_15, .lp A179_1, .bk 0, .sq A179_16]) s := by
  intro k
  induction k with
  | zero => intro x_297 x_298 s _ h; exact nomatch (h : (none : Option _) = some r)
  | succ k ih =>
    intro x_297 x_298 s hs h
    rw [s_l2Reach_l2] at h
    obtain ⟨h1, h3, h6, h7, h8, h9⟩ := hs
    refine .seq (.seq (rg (gm h9 fun h19 => gm h1 fun h20 => gv (ji (x_2.length : Int)) (ev_len (xs := x_2) h20) fun h21 => ?_)))
    refine g2 19 21 (jb (decide (x_298 < (x_2.length : Int)))) h19 h21 fun h22 => ?_
    refine gq (.nsq (run_cond (t := decide (x_298 < (x_2.length : Int))) h22 h (fun h => ?_) (fun h => ?_)))
    · refine .skip (.nsq (.seq (.block (.seq (rg (g0 (ji 0) fun h10 => gq (.nsq (.block (.loop ?_)))))))))
      exact t_f179_l1 H x_2 x_1 x_130 x_298 c1 Hc1 (s_l2Reach_l2 F x_2 x_1 x_130 c1 k) ih F x_297 0 _ ⟨h1, h3, h6, h7, h8, h9, h10⟩ h
    refine .exit (.esq (.elp (.ebk (.nbk (.nsq (rg (gm h8 fun h17 => g1 17 (ji (w64 (x_130 + 1))) h17 fun h18 => ?_)))))))
    refine gm h18 fun h8 => gq (.nlp ?_)
    exact Hc1 x_297 (w64 (x_130 + 1)) _ ⟨h1, h3, h6, h7, h8⟩ h
def s_l2Reach_l3 (F : Nat) (x_2 : (List Int)) (x_1 : (Int × (List (Int × Int))))  : Nat → (List Int) → Int → Option (List Int)
  | 0, _, _ => none
  | k + 1, x_129, x_130 =>
    bif decide (x_130 < (x_2.length : Int)) then
      s_l2Reach_l2 F x_2 x_1 x_130 (s_l2Reach_l3 F x_2 x_1 k) F x_129 0
    else
      some x_129
theorem t_f179_l3 (H : H179 D σ F) (x_2 : (List Int)) (x_1 : (Int × (List (Int × Int))))  : ∀ (k : Nat) (x_129 : (List Int)) (x_130 : Int) (s : Nat → V), Facts [(1, (eL x_2)), (3, (.ref (.bx 3) 0 [] (.agg [(ji x_1.1), (Enc.enc (x_1.2 : List (Int × Int)))]))), (6, (.sl .nl (Enc.shp Int) 0 [])), (7, (eL x_129)), (8, (ji x_130))] s → s_l2Reach_l3 F x_2 x_1 k x_129 x_130 = some r → Run D σ (R179 r) (.run A179_1 [.lp A179_1, .bk 0, .sq A179_16]) s := by
  intro k
  induction k with
  | zero => intro x_129 x_130 s _ h; exact nomatch (h : (none : Option _) = some r)
  | succ k ih =>
    intro x_129 x_130 s hs h
    rw [s_l2Reach_l3] at h
    obtain ⟨h1, h3, h6, h7, h8⟩ := hs
    refine .seq (.seq (rg (gm h8 fun h13 => gm h1 fun h14 => gv (ji (x_2.length : Int)) (ev_len (xs := x_2) h14) fun h15 => ?_)))
    refine g2 13 15 (jb (decide (x_130 < (x_2.length : Int)))) h13 h15 fun h16 => ?_
    refine gq (.nsq (run_cond (t := decide (x_130 < (x_2.length : Int))) h16 h (fun h => ?_) (fun h => ?_)))
    · refine .skip (.nsq (.seq (.block (.seq (rg (g0 (ji 0) fun h9 => gq (.nsq (.block (.loop ?_)))))))))
      exact t_f179_l2 H x_2 x_1 x_130 (s_l2Reach_l3 F x_2 x_1 k) ih F x_129 0 _ ⟨h1, h3, h6, h7, h8, h9⟩ h
    refine .exit (.esq (.elp (.ebk (.nsq (.seq (rg (gm h7 fun h56 => gm h56 fun h6 => gq (.nsq (.ret ?_)))))))))
    have hr := Option.some.inj h
    subst hr
    exact rrA (res_tmp h6) (fin_ret1 (fin_enc (x := (x_129 : (List Int)))))
def s_l2Reach (F : Nat) (x_1 : (Int × (List (Int × Int)))) (x_2 : (List Int)) (x_3 : Int) : Option (List Int) :=
  s_l2Reach_l3 F x_2 x_1 F [x_3] 0
theorem t179 (H : H179 D σ F) (x_1 : (Int × (List (Int × Int)))) (x_2 : (List Int)) (x_3 : Int) (s : Nat → V) (hs : Facts [(0, (.agg [(ji x_1.1), (Enc.enc (x_1.2 : List (Int × Int)))])), (1, (eL x_2)), (2, (ji x_3))] s) (h : s_l2Reach F x_1 x_2 x_3 = some r) : Run D σ (R179 r) (.run A179 []) s := by
  unfold s_l2Reach at h
  obtain ⟨h0, h1, h2⟩ := hs
  refine .seq (run_reg ?_)
  refine e_clr ?_
  refine ez [(0, _), (1, _), (2, _), (3, _)] ⟨(keep_clear (pk := [3]) h0 rfl (map_agg (maps_cons mi (maps_cons me maps_nil)))), (keep_clear (pk := [3]) h1 rfl me), (keep_clear (pk := [3]) h2 rfl mi), (gone_clear (pk := [3]) (t := 3) rfl)⟩ ?_
  rintro s ⟨h0, h1, h2, h3⟩
  refine g_box (.agg [(ji x_1.1), (Enc.enc (x_1.2 : List (Int × Int)))]) (rd_of h0 rfl) h3 rfl ?_
  refine g0 (.sl .nl (Enc.shp Int) 0 []) fun h6 => ?_
  refine gq (.nsq (.seq (run_reg ?_)))
  refine e_clr ?_
  refine ez [(1, _), (2, _), (3, _), (6, _), (12, _)] ⟨(keep_clear (pk := [12]) h1 rfl me), (keep_clear (pk := [12]) h2 rfl mi), (keep_clear (pk := [12]) rfl rfl (map_bx rfl (map_agg (maps_cons mi (maps_cons me maps_nil))))), (keep_clear (pk := [12]) h6 rfl rfl), (gone_clear (pk := [12]) (t := 12) rfl)⟩ ?_
  rintro s ⟨h1, h2, h3, h6, h12⟩
  refine gm h2 fun h11 => g_litL [(11, (ji x_3))] [Enc.enc (x_3 : Int)] h11 rfl rfl h12 ?_
  refine gm (rfl : (_ : V) = (oI 12 [] (.of [x_3]))) fun h7 => ?_
  refine g_end ?_
  refine e_home (r := 12) (x := 7) (v := _) h7 rfl (fun s_3 hg_3 => ?_)
  refine e_frz (x := 7) (v := (oI 7 [] (.of [x_3]))) [(.at 7 [])] (by exact (hg_3 7 _ _ h7 (map_encO (r := 12) (p := []) rfl rfl))) toks_ownL (fun s_4 hg_4 => ?_)
  refine ez [(1, (eL x_2)), (3, (.ref (.bx 3) 0 [] (.agg [(ji x_1.1), (Enc.enc (x_1.2 : List (Int × Int)))]))), (6, (.sl .nl (Enc.shp Int) 0 [])), (7, (eL [x_3]))] ⟨(hg_4 1 (eL x_2) (eL x_2) (hg_3 1 _ _ h1 me) (Enc.frz_enc _ (x_2 : List Int))), (hg_4 3 (.ref (.bx 3) 0 [] (.agg [(ji x_1.1), (Enc.enc (x_1.2 : List (Int × Int)))])) (.ref (.bx 3) 0 [] (.agg [(ji x_1.1), (Enc.enc (x_1.2 : List (Int × Int)))])) (hg_3 3 _ _ h3 (map_bx rfl (map_agg (maps_cons mi (maps_cons me maps_nil))))) (frz_ref_ne rfl (frz_agg (frzs_cons rfl (frzs_cons (Enc.frz_enc _ (x_1.2 : List (Int × Int))) rfl))) rfl)), (hg_4 6 (.sl .nl (Enc.shp Int) 0 []) (.sl .nl (Enc.shp Int) 0 []) (hg_3 6 _ (.sl .nl (Enc.shp Int) 0 []) h6 rfl) rfl), (hg_4 7 (oI 7 [] (.of [x_3])) (eL [x_3]) (hg_3 7 _ _ h7 (map_encO (r := 12) (p := []) rfl rfl)) frz_own)⟩ ?_
  rintro s ⟨h1, h3, h6, h7⟩
  refine .nsq (.seq (.seq (rg (g0 (ji 0) fun h8 => gq (.nsq (.block (.loop ?_)))))))
  exact t_f179_l3 H x_2 x_1 F [x_3] 0 _ ⟨h1, h3, h6, h7, h8⟩ h
end
def e179 (F : Nat) : Ent := ent 179 (fun (x : ((Int × (List (Int × Int))) × (List Int) × Int × Unit)) => s_l2Reach F x.1 x.2.1 x.2.2.1) (fun (r : (List Int)) => (Enc.enc (r : (List Int)))) 0 true []
theorem p179 {F : Nat} {x0 : (Int × (List (Int × Int)))} {x1 : (List Int)} {x2 : Int} {r : (List Int)} (h : s_l2Reach F x0 x1 x2 = some r) : (e179 F).den [Enc.enc x0, Enc.enc x1, Enc.enc x2] = some (Enc.enc (r : (List Int))) := ent_put (x0, x1, x2, ()) h
theorem o179 {D : Den} {σ : Sig} {F : Nat} (hF : Fits2 Try.prog D σ) (H : H179 D σ F) : (e179 F).Ok Try.prog := by
  refine ok_of (f := 179) (show unk 179 = 179 from rfl) (fun args r h => ?_) ⟨Try.f179, Try.func179, rfl, rfl⟩
  obtain ⟨⟨x0, x1, x2, _⟩, y, rfl, hy, rfl⟩ := da_open h
  exact contract_run hF (by kernel_rfl) Try.func179 rfl c179 (show 3 ≤ Try.f179.ntmps by decide) (t179 H x0 x1 x2 _ ⟨rfl, rfl, rfl⟩ hy)
/- loop.example/g01109/spec.l2Parts -/
def A148_2 : AC := (.cond (.t 15) .skip (.exit 0))
def A148_4 : AC := (.cond (.t 23) (.exit 1) .skip)
def A148_9 : AC := (.cond (.t 34) .skip (.exit 2))
def A148_11 : AC := (.reg [] [(jm 35 9), ((jv 36 (.bin .add (.t 35) (jn 1)))), (jm 9 36)] [])
def A148_10 : AC := (.seq (.block 3 (.reg [.frz 6] [(jm 37 6), (jm 38 8), (jm 39 9), ((jv 40 (.idx (.t 38) (.t 39) 1))), ((jv 41 (.load .s (.t 40)))), (.mk (some 42) none false (.call (.k (.fn 146 [] [])) [(.t 37), (.t 41)])), (jm 6 42)] [])) A148_11)
def A148_8 : AC := (.seq (.seq (.reg [] [(jm 31 9), (jm 32 8), ((jv 33 (.len (.t 32)))), ((jv 34 (.bin .lss (.t 31) (.t 33))))] []) A148_9) A148_10)
def A148_7 : AC := (.block 2 (.loop A148_8))
def A148_12 : AC := (.reg [.clr [45, 46]] [(jm 43 5), (jm 44 8), (.mk (some 45) none false (.lit (.sl .nl .s 0 []) 1 [(0, 0, (.t 44))])), (.mk (some 46) none false (.app .p (.t 43) (.t 45))), (jm 5 46)] [.home 46 5])
def A148_6 : AC := (.seq (.seq (.reg [] [((jv 9 (.mov (jn 0))))] []) A148_7) A148_12)
def A148_5 : AC := (.seq (.reg [] [((jv 24 (.load (.ag [.s, .p]) (.t 2)))), (jm 25 1), (jm 26 1), (jm 27 7), ((jv 28 (.idx (.t 26) (.t 27) 1))), ((jv 29 (.load .s (.t 28)))), (.mk (some 30) none false (.call (.k (.fn 179 [] [])) [(.t 24), (.t 25), (.t 29)])), (jm 8 30)] []) A148_6)
def A148_13 : AC := (.reg [] [(jm 16 7), ((jv 17 (.bin .add (.t 16) (jn 1)))), (jm 7 17)] [])
def A148_3 : AC := (.seq (.block 1 (.seq (.seq (.reg [] [(jm 18 6), (jm 19 1), (jm 20 7), ((jv 21 (.idx (.t 19) (.t 20) 1))), ((jv 22 (.load .s (.t 21)))), (.mk (some 23) none false (.call (.k (.fn 74 [] [])) [(.t 18), (.t 22)]))] []) A148_4) A148_5)) A148_13)
def A148_1 : AC := (.seq (.seq (.reg [] [(jm 12 7), (jm 13 1), ((jv 14 (.len (.t 13)))), ((jv 15 (.bin .lss (.t 12) (.t 14))))] []) A148_2) A148_3)
def A148_14 : AC := (.seq (.reg [] [(jm 47 5), (jm 4 47)] [.home 5 4]) .ret)
def A148_17 : AC := (.block 0 (.loop A148_1))
def A148_16 : AC := (.seq (.seq (.reg [] [((jv 7 (.mov (jn 0))))] [.frz 6]) A148_17) A148_14)
def A148_15 : AC := (.seq (.reg [.clr [10, 11]] [(.mk (some 10) none false (.lit (.sl .nl .s 0 []) 0 [])), (.mk (some 11) none false (.lit (.int .i64 (.ofNat 0)) 0 [])), (jm 5 10), (jm 6 11)] [.home 10 5, .home 11 6]) A148_16)
def A148 : AC := (.seq (.reg [.clr [2]] [(.mk (some 2) none false (.box (.t 0))), ((jv 4 (.mov (.k (.sl .nl .p 0 [])))))] []) A148_15)
def an148 : List An := [{ id := 0, pre := [.clr [2]], ep := [], lin := [], sp := [] }, { id := 1, pre := [.clr [10, 11]], ep := [.home 10 5, .home 11 6], lin := [], sp := [] }, { id := 2, pre := [], ep := [.frz 6], lin := [], sp := [] }, { id := 10, pre := [.frz 6], ep := [], lin := [], sp := [] }, { id := 11, pre := [.clr [45, 46]], ep := [.home 46 5], lin := [], sp := [] }, { id := 12, pre := [], ep := [.home 5 4], lin := [], sp := [] }]
theorem c148 : cC Try.prog Try.f148.ntmps an148 (Try.f148.body.getD .skip) = some A148 := by kernel_rfl
structure H148 (D : Den) (σ : Sig) (F : Nat) : Prop where
  c74 : ∀ (x0 : (List Int)) (x1 : Int) r, s_l1Has F x0 x1 = some r → D 74 [Enc.enc x0, Enc.enc x1] = some (Enc.enc (r : Bool))
  g74 : σ 74 = some (0, false)
  c179 : ∀ (x0 : (Int × (List (Int × Int)))) (x1 : (List Int)) (x2 : Int) r, s_l2Reach F x0 x1 x2 = some r → D 179 [Enc.enc x0, Enc.enc x1, Enc.enc x2] = some (Enc.enc (r : (List Int)))
  g179 : σ 179 = some (0, true)
  c146 : ∀ (x0 : (List Int)) (x1 : Int) r, s_l1Put F x0 x1 = some r → D 146 [Enc.enc x0, Enc.enc x1] = some (Enc.enc (r : (List Int)))
  g146 : σ 146 = some (0, true)
abbrev R148 (r : (List (List Int))) : (Nat → V) → Prop := RR Try.prog [.tmp 4] 0 true (Enc.enc (r : (List (List Int))))
section
variable {D : Den} {σ : Sig} {F : Nat} {r : (List (List Int))}
def s_l2Parts_l1 (F : Nat) (x_2 : (List Int)) (x_1 : (Int × (List (Int × Int)))) (x_16 : (List (List Int))) (x_18 : Int) (r_35 : (List Int)) (c1 : (List (List Int)) → (List Int) → Int → Option (List (List Int))) : Nat → (List Int) → Int → Option (List (List Int))
  | 0, _, _ => none
  | k + 1, x_38, x_39 =>
    bif decide (x_39 < (r_35.length : Int)) then
      (idx r_35 x_39).bind fun e_42 =>
      (s_l1Put F x_38 e_42).bind fun r_43 =>
      (s_l2Parts_l1 F x_2 x_1 x_16 x_18 r_35 c1 k) r_43 (w64 (x_39 + 1))
    else
      (appL x_16 [r_35]).bind fun ap_44 =>
      c1 ap_44 x_38 (w64 (x_18 + 1))
theorem t_f148_l1 (H : H148 D σ F) (x_2 : (List Int)) (x_1 : (Int × (List (Int × Int)))) (x_16 : (List (List Int))) (x_18 : Int) (r_35 : (List Int)) (c1 : (List (List Int)) → (List Int) → Int → Option (List (List Int))) (Hc1 : ∀ (x_16 : (List (List Int))) (x_17 : (List Int)) (x_18 : Int) (s : Nat → V), Facts [(1, (eL x_2)), (2, (.ref (.bx 2) 0 [] (.agg [(ji x_1.1), (Enc.enc (x_1.2 : List (Int × Int)))]))), (4, (.sl .nl (Enc.shp (List Int)) 0 [])), (5, (encO (.at 5 []) (.of (x_16 : List (List Int))))), (6, (eL x_17)), (7, (ji x_18))] s → c1 x_16 x_17 x_18 = some r → Run D σ (R148 r) (.run A148_1 [.lp A148_1, .bk 0, .sq A148_14]) s) : ∀ (k : Nat) (x_38 : (List Int)) (x_39 : Int) (s : Nat → V), Facts [(1, (eL x_2)), (2, (.ref (.bx 2) 0 [] (.agg [(ji x_1.1), (Enc.enc (x_1.2 : List (Int × Int)))]))), (4, (.sl .nl (Enc.shp (List Int)) 0 [])), (5, (encO (.at 5 []) (.of (x_16 : List (List Int))))), (6, (eL x_38)), (7, (ji x_18)), (8, (eL r_35)), (9, (ji x_39))] s → s_l2Parts_l1 F x_2 x_1 x_16 x_18 r_35 c1 k x_38 x_39 = some r → Run D σ (R148 r) (.run A148_8 [.lp A148_8, .bk 2, .sq A148_12, .bk 1, .sq A148_13, .lp A148_1, .bk 0, .sq A148_14]) s := by
  intro k
  induction k with
  | zero => intro x_38 x_39 s _ h; exact nomatch (h : (none : Option _) = some r)
  | succ k ih =>
    intro x_38 x_39 s hs h
    rw [s_l2Parts_l1] at h
    obtain ⟨h1, h2, h4, h5, h6, h7, h8, h9⟩ := hs
    refine .seq (.seq (rg (gm h9 fun h31 => gm h8 fun h32 => gv (ji (r_35.length : Int)) (ev_len (xs := r_35) h32) fun h33 => ?_)))
    refine g2 31 33 (jb (decide (x_39 < (r_35.length : Int)))) h31 h33 fun h34 => ?_
    refine gq (.nsq (run_cond (t := decide (x_39 < (r_35.length : Int))) h34 h (fun h => ?_) (fun h => ?_)))
    · refine .skip (.nsq (.seq (.block (run_reg ?_))))
      refine e_frz (x := 6) (v := (eL x_38)) [] (by exact h6) (Enc.toks_enc (x_38 : List Int)) (fun s_20 hg_20 => ?_)
      refine ez [(1, _), (2, _), (4, _), (5, _), (6, _), (7, _), (8, _), (9, _)] ⟨(hg_20 1 (eL x_2) (eL x_2) h1 (frz_none _)), (hg_20 2 (.ref (.bx 2) 0 [] (.agg [(ji x_1.1), (Enc.enc (x_1.2 : List (Int × Int)))])) (.ref (.bx 2) 0 [] (.agg [(ji x_1.1), (Enc.enc (x_1.2 : List (Int × Int)))])) h2 (frz_none _)), (hg_20 4 (.sl .nl (Enc.shp (List Int)) 0 []) (.sl .nl (Enc.shp (List Int)) 0 []) h4 (frz_none _)), (hg_20 5 (encO (.at 5 []) (.of (x_16 : List (List Int)))) (encO (.at 5 []) (.of (x_16 : List (List Int)))) h5 (frz_none _)), (hg_20 6 (eL x_38) (eL x_38) h6 (frz_none _)), (hg_20 7 (ji x_18) (ji x_18) h7 (frz_none _)), (hg_20 8 (eL r_35) (eL r_35) h8 (frz_none _)), (hg_20 9 (ji x_39) (ji x_39) h9 (frz_none _))⟩ ?_
      rintro s ⟨h1, h2, h4, h5, h6, h7, h8, h9⟩
      refine gm h6 fun h37 => gm h8 fun h38 => gm h9 fun h39 => ?_
      obtain ⟨e_42, E_e_42, h⟩ := bind_some h
      refine gv (.ref .sh 0 [] (ji e_42)) (ev_idx (t := .sh) (lo := 0) (xs := r_35) h38 h39 E_e_42 rfl rfl) fun h40 => ?_
      refine g1 40 (ji e_42) h40 fun h41 => ?_
      obtain ⟨r_43, E_r_43, h⟩ := bind_some h
      refine g_call (m := 0) (al := true) (r := (Enc.enc (r_43 : (List Int)))) [Enc.enc (x_38 : (List Int)), Enc.enc (e_42 : Int)] (ta_cons (v := (eL x_38)) h37 rfl (Enc.erase_enc (x_38 : (List Int))) (ta_cons (v := (ji e_42)) h41 rfl rfl ta_nil)) (H.c146 _ _ _ E_r_43) H.g146 (hal_of (ht_cons (v := (eL x_38)) h37 rfl rfl (ht_cons (v := (ji e_42)) h41 rfl rfl ht_nil))) rfl rfl rfl ?_
      refine gm (rfl : (_ : V) = (eL r_43)) fun h6 => ?_
      refine gq (.nbk (.nsq (rg (gm h9 fun h35 => g1 35 (ji (w64 (x_39 + 1))) h35 fun h36 => ?_))))
      refine gm h36 fun h9 => gz [(1, _), (2, _), (4, _), (5, _), (6, _), (7, _), (8, _), (9, _)] ⟨h1, h2, h4, h5, h6, h7, h8, h9⟩ ?_
      rintro s ⟨h1, h2, h4, h5, h6, h7, h8, h9⟩
      refine .nlp ?_
      exact ih r_43 (w64 (x_39 + 1)) _ ⟨h1, h2, h4, h5, h6, h7, h8, h9⟩ h
    refine .exit (.esq (.elp (.ebk (.nsq (run_reg ?_)))))
    refine e_clr ?_
    refine ez [(1, _), (2, _), (4, _), (5, _), (6, _), (7, _), (8, _), (45, _), (46, _)] ⟨(keep_clear (pk := [45, 46]) h1 rfl me), (keep_clear (pk := [45, 46]) h2 rfl (map_bx rfl (map_agg (maps_cons mi (maps_cons me maps_nil))))), (keep_clear (pk := [45, 46]) h4 rfl rfl), (keep_clear (pk := [45, 46]) h5 rfl (map_encO (r := 5) (p := []) rfl rfl)), (keep_clear (pk := [45, 46]) h6 rfl me), (keep_clear (pk := [45, 46]) h7 rfl mi), (keep_clear (pk := [45, 46]) h8 rfl me), (gone_clear (pk := [45, 46]) (t := 45) rfl), (gone_clear (pk := [45, 46]) (t := 46) rfl)⟩ ?_
    rintro s ⟨h1, h2, h4, h5, h6, h7, h8, h45, h46⟩
    refine gm h5 fun h43 => gm h8 fun h44 => g_litL [(44, (eL r_35))] [Enc.enc (r_35 : (List Int))] h44 rfl rfl h45 ?_
    obtain ⟨ap_44, E_ap_44, h⟩ := bind_some h
    refine g_app (q := 5) (p := []) (o := (.of (x_16 : List (List Int)))) (ys := ([r_35] : List (List Int))) (t2 := (.at 45 [])) (lo2 := 0) h43 rfl rfl h46 (appN_L (o := (.of (x_16 : List (List Int)))) E_ap_44 trivial) (fun s_22 ha_22 => ?_)
    refine gm (rfl : (_ : V) = (encO (.at 46 []) (.of (ap_44 : List (List Int))))) fun h5 => ?_
    refine g_end ?_
    refine e_home (r := 46) (x := 5) (v := _) h5 rfl (fun s_23 hg_23 => ?_)
    refine ez [(1, (eL x_2)), (2, (.ref (.bx 2) 0 [] (.agg [(ji x_1.1), (Enc.enc (x_1.2 : List (Int × Int)))]))), (4, (.sl .nl (Enc.shp (List Int)) 0 [])), (5, (encO (.at 5 []) (.of (ap_44 : List (List Int))))), (6, (eL x_38)), (7, (ji x_18))] ⟨(hg_23 1 _ _ (show s_22 1 = (eL x_2) from keep_app ha_22 h1 me) me), (hg_23 2 _ _ (show s_22 2 = (.ref (.bx 2) 0 [] (.agg [(ji x_1.1), (Enc.enc (x_1.2 : List (Int × Int)))])) from keep_app ha_22 h2 (map_bx rfl (map_agg (maps_cons mi (maps_cons me maps_nil))))) (map_bx rfl (map_agg (maps_cons mi (maps_cons me maps_nil))))), (hg_23 4 _ (.sl .nl (Enc.shp (List Int)) 0 []) (show s_22 4 = (.sl .nl (Enc.shp (List Int)) 0 []) from keep_app ha_22 h4 rfl) rfl), (hg_23 5 _ _ h5 (map_encO (r := 46) (p := []) rfl rfl)), (hg_23 6 _ _ (show s_22 6 = (eL x_38) from keep_app ha_22 h6 me) me), (hg_23 7 _ _ (show s_22 7 = (ji x_18) from keep_app ha_22 h7 mi) mi)⟩ ?_
    rintro s ⟨h1, h2, h4, h5, h6, h7⟩
    refine .nbk (.nsq (rg (gm h7 fun h16 => g1 16 (ji (w64 (x_18 + 1))) h16 fun h17 => ?_)))
    refine gm h17 fun h7 => gq (.nlp ?_)
    exact Hc1 ap_44 x_38 (w64 (x_18 + 1)) _ ⟨h1, h2, h4, h5, h6, h7⟩ h
def s_l2Parts_l2 (F : Nat) (x_2 : (List Int)) (x_1 : (Int × (List (Int × Int))))  : Nat → (List (List Int)) → (List Int) → Int → Option (List (List Int))
  | 0, _, _, _ => none
  | k + 1, x_16, x_17, x_18 =>
    bif decide (x_18 < (x_2.length : Int)) then
      (idx x_2 x_18).bind fun e_32 =>
      (s_l1Has F x_17 e_32).bind fun r_33 =>
      bif r_33 then
        (s_l2Parts_l2 F x_2 x_1 k) x_16 x_17 (w64 (x_18 + 1))
      else
        (idx x_2 x_18).bind fun e_34 =>
        (s_l2Reach F x_1 x_2 e_34).bind fun r_35 =>
        s_l2Parts_l1 F x_2 x_1 x_16 x_18 r_35 (s_l2Parts_l2 F x_2 x_1 k) F x_17 0
    else
      some x_16
theorem t_f148_l2 (H : H148 D σ F) (x_2 : (List Int)) (x_1 : (Int × (List (Int × Int))))  : ∀ (k : Nat) (x_16 : (List (List Int))) (x_17 : (List Int)) (x_18 : Int) (s : Nat → V), Facts [(1, (eL x_2)), (2, (.ref (.bx 2) 0 [] (.agg [(ji x_1.1), (Enc.enc (x_1.2 : List (Int × Int)))]))), (4, (.sl .nl (Enc.shp (List Int)) 0 [])), (5, (encO (.at 5 []) (.of (x_16 : List (List Int))))), (6, (eL x_17)), (7, (ji x_18))] s → s_l2Parts_l2 F x_2 x_1 k x_16 x_17 x_18 = some r → Run D σ (R148 r) (.run A148_1 [.lp A148_1, .bk 0, .sq A148_14]) s := by
  intro k
  induction k with
  | zero => intro x_16 x_17 x_18 s _ h; exact nomatch (h : (none : Option _) = some r)
  | succ k ih =>
    intro x_16 x_17 x_18 s hs h
    rw [s_l2Parts_l2] at h
    obtain ⟨h1, h2, h4, h5, h6, h7⟩ := hs
    refine .seq (.seq (rg (gm h7 fun h12 => gm h1 fun h13 => gv (ji (x_2.length : Int)) (ev_len (xs := x_2) h13) fun h14 => ?_)))
    refine g2 12 14 (jb (decide (x_18 < (x_2.length : Int)))) h12 h14 fun h15 => ?_
    refine gq (.nsq (run_cond (t := decide (x_18 < (x_2.length : Int))) h15 h (fun h => ?_) (fun h => ?_)))
    · refine .skip (.nsq (.seq (.block (.seq (.seq (rg (gm h6 fun h18 => gm h1 fun h19 => gm h7 fun h20 => ?_)))))))
      obtain ⟨e_32, E_e_32, h⟩ := bind_some h
      refine gv (.ref .sh 0 [] (ji e_32)) (ev_idx (t := .sh) (lo := 0) (xs := x_2) h19 h20 E_e_32 rfl rfl) fun h21 => ?_
      refine g1 21 (ji e_32) h21 fun h22 => ?_
      obtain ⟨r_33, E_r_33, h⟩ := bind_some h
      refine g_call (m := 0) (al := false) (r := (Enc.enc (r_33 : Bool))) [Enc.enc (x_17 : (List Int)), Enc.enc (e_32 : Int)] (ta_cons (v := (eL x_17)) h18 rfl (Enc.erase_enc (x_17 : (List Int))) (ta_cons (v := (ji e_32)) h22 rfl rfl ta_nil)) (H.c74 _ _ _ E_r_33) H.g74 rfl rfl rfl rfl ?_
      refine gq (.nsq (run_cond (t := r_33) rfl h (fun h => ?_) (fun h => ?_)))
      · refine .exit (.esq (.ebk (.nsq (rg (gm h7 fun h16 => g1 16 (ji (w64 (x_18 + 1))) h16 fun h17 => ?_)))))
        refine gm h17 fun h7 => gq (.nlp ?_)
        exact ih x_16 x_17 (w64 (x_18 + 1)) _ ⟨h1, h2, h4, h5, h6, h7⟩ h
      refine .skip (.nsq (.seq (rg (g1 2 (.agg [(ji x_1.1), (Enc.enc (x_1.2 : List (Int × Int)))]) h2 fun h24 => ?_))))
      refine gm h1 fun h25 => gm h1 fun h26 => gm h7 fun h27 => ?_
      obtain ⟨e_34, E_e_34, h⟩ := bind_some h
      refine gv (.ref .sh 0 [] (ji e_34)) (ev_idx (t := .sh) (lo := 0) (xs := x_2) h26 h27 E_e_34 rfl rfl) fun h28 => ?_
      refine g1 28 (ji e_34) h28 fun h29 => ?_
      obtain ⟨r_35, E_r_35, h⟩ := bind_some h
      refine g_call (m := 0) (al := true) (r := (Enc.enc (r_35 : (List Int)))) [Enc.enc (x_1 : (Int × (List (Int × Int)))), Enc.enc (x_2 : (List Int)), Enc.enc (e_34 : Int)] (ta_cons (v := (.agg [(ji x_1.1), (Enc.enc (x_1.2 : List (Int × Int)))])) h24 rfl (Enc.erase_enc (x_1 : (Int × (List (Int × Int))))) (ta_cons (v := (eL x_2)) h25 rfl (Enc.erase_enc (x_2 : (List Int))) (ta_cons (v := (ji e_34)) h29 rfl rfl ta_nil))) (H.c179 _ _ _ _ E_r_35) H.g179 (hal_of (ht_cons (v := (.agg [(ji x_1.1), (Enc.enc (x_1.2 : List (Int × Int)))])) h24 rfl rfl (ht_cons (v := (eL x_2)) h25 rfl rfl (ht_cons (v := (ji e_34)) h29 rfl rfl ht_nil)))) rfl rfl rfl ?_
      refine gm (rfl : (_ : V) = (eL r_35)) fun h8 => ?_
      refine gq (.nsq (.seq (.seq (rg (g0 (ji 0) fun h9 => gq (.nsq (.block (.loop ?_))))))))
      exact t_f148_l1 H x_2 x_1 x_16 x_18 r_35 (s_l2Parts_l2 F x_2 x_1 k) ih F x_17 0 _ ⟨h1, h2, h4, h5, h6, h7, h8, h9⟩ h
    refine .exit (.esq (.elp (.ebk (.nsq (.seq (rg (gm h5 fun h47 => gm h47 fun h4 => g_end ?_)))))))
    refine e_home (r := 5) (x := 4) (v := _) h4 rfl (fun s_24 hg_24 => ?_)
    refine ez [(4, (encO (.at 4 []) (.of (x_16 : List (List Int)))))] (hg_24 4 _ _ h4 (map_encO (r := 5) (p := []) rfl rfl)) ?_
    rintro s h4
    refine .nsq (.ret ?_)
    have hr := Option.some.inj h
    subst hr
    exact rrA (res_tmp h4) (fin_ret1 (fin_own (o := .of x_16)))
def s_l2Parts (F : Nat) (x_1 : (Int × (List (Int × Int)))) (x_2 : (List Int)) : Option (List (List Int)) :=
  s_l2Parts_l2 F x_2 x_1 F [] [] 0
theorem t148 (H : H148 D σ F) (x_1 : (Int × (List (Int × Int)))) (x_2 : (List Int)) (s : Nat → V) (hs : Facts [(0, (.agg [(ji x_1.1), (Enc.enc (x_1.2 : List (Int × Int)))])), (1, (eL x_2))] s) (h : s_l2Parts F x_1 x_2 = some r) : Run D σ (R148 r) (.run A148 []) s := by
  unfold s_l2Parts at h
  obtain ⟨h0, h1⟩ := hs
  refine .seq (run_reg ?_)
  refine e_clr ?_
  refine ez [(0, _), (1, _), (2, _)] ⟨(keep_clear (pk := [2]) h0 rfl (map_agg (maps_cons mi (maps_cons me maps_nil)))), (keep_clear (pk := [2]) h1 rfl me), (gone_clear (pk := [2]) (t := 2) rfl)⟩ ?_
  rintro s ⟨h0, h1, h2⟩
  refine g_box (.agg [(ji x_1.1), (Enc.enc (x_1.2 : List (Int × Int)))]) (rd_of h0 rfl) h2 rfl ?_
  refine g0 (.sl .nl (Enc.shp (List Int)) 0 []) fun h4 => ?_
  refine gq (.nsq (.seq (run_reg ?_)))
  refine e_clr ?_
  refine ez [(1, _), (2, _), (4, _), (10, _), (11, _)] ⟨(keep_clear (pk := [10, 11]) h1 rfl me), (keep_clear (pk := [10, 11]) rfl rfl (map_bx rfl (map_agg (maps_cons mi (maps_cons me maps_nil))))), (keep_clear (pk := [10, 11]) h4 rfl rfl), (gone_clear (pk := [10, 11]) (t := 10) rfl), (gone_clear (pk := [10, 11]) (t := 11) rfl)⟩ ?_
  rintro s ⟨h1, h2, h4, h10, h11⟩
  refine g_litL [] [] trivial rfl rfl h10 ?_
  refine g_litL [] [] trivial rfl rfl h11 ?_
  refine gm (rfl : (_ : V) = (encO (.at 10 []) (.of ([] : List (List Int))))) fun h5 => ?_
  refine gm (rfl : (_ : V) = (oI 11 [] (.of []))) fun h6 => ?_
  refine g_end ?_
  refine e_home (r := 10) (x := 5) (v := _) h5 rfl (fun s_3 hg_3 => ?_)
  refine e_home (r := 11) (x := 6) (v := _) (by exact (hg_3 6 _ _ h6 (map_encO (r := 11) (p := []) rfl rfl))) rfl (fun s_4 hg_4 => ?_)
  refine ez [(1, (eL x_2)), (2, (.ref (.bx 2) 0 [] (.agg [(ji x_1.1), (Enc.enc (x_1.2 : List (Int × Int)))]))), (4, (.sl .nl (Enc.shp (List Int)) 0 [])), (5, (encO (.at 5 []) (.of ([] : List (List Int))))), (6, (oI 6 [] (.of [])))] ⟨(hg_4 1 _ _ (hg_3 1 _ _ h1 me) me), (hg_4 2 _ _ (hg_3 2 _ _ h2 (map_bx rfl (map_agg (maps_cons mi (maps_cons me maps_nil))))) (map_bx rfl (map_agg (maps_cons mi (maps_cons me maps_nil))))), (hg_4 4 _ (.sl .nl (Enc.shp (List Int)) 0 []) (hg_3 4 _ (.sl .nl (Enc.shp (List Int)) 0 []) h4 rfl) rfl), (hg_4 5 _ _ (hg_3 5 _ _ h5 (map_encO (r := 10) (p := []) rfl rfl)) (map_encO (r := 5) (p := []) rfl rfl)), (hg_4 6 _ _ (hg_3 6 _ _ h6 (map_encO (r := 11) (p := []) rfl rfl)) (map_encO (r := 11) (p := []) rfl rfl))⟩ ?_
  rintro s ⟨h1, h2, h4, h5, h6⟩
  refine .nsq (.seq (.seq (rg (g0 (ji 0) fun h7 => g_end ?_))))
  refine e_frz (x := 6) (v := (oI 6 [] (.of []))) [(.at 6 [])] (by exact h6) toks_ownL (fun s_5 hg_5 => ?_)
  refine ez [(1, (eL x_2)), (2, (.ref (.bx 2) 0 [] (.agg [(ji x_1.1), (Enc.enc (x_1.2 : List (Int × Int)))]))), (4, (.sl .nl (Enc.shp (List Int)) 0 [])), (5, (encO (.at 5 []) (.of ([] : List (List Int))))), (6, _), (7, (ji 0))] ⟨(hg_5 1 (eL x_2) (eL x_2) h1 (Enc.frz_enc _ (x_2 : List Int))), (hg_5 2 (.ref (.bx 2) 0 [] (.agg [(ji x_1.1), (Enc.enc (x_1.2 : List (Int × Int)))])) (.ref (.bx 2) 0 [] (.agg [(ji x_1.1), (Enc.enc (x_1.2 : List (Int × Int)))])) h2 (frz_ref_ne rfl (frz_agg (frzs_cons rfl (frzs_cons (Enc.frz_enc _ (x_1.2 : List (Int × Int))) rfl))) rfl)), (hg_5 4 (.sl .nl (Enc.shp (List Int)) 0 []) (.sl .nl (Enc.shp (List Int)) 0 []) h4 rfl), (hg_5 5 (encO (.at 5 []) (.of ([] : List (List Int)))) (encO (.at 5 []) (.of ([] : List (List Int)))) h5 (frz_own_ne rfl rfl)), (hg_5 6 (oI 6 [] (.of [])) (eL []) h6 frz_own), (hg_5 7 (ji 0) (ji 0) h7 rfl)⟩ ?_
  rintro s ⟨h1, h2, h4, h5, h6, h7⟩
  refine .nsq (.block (.loop ?_))
  exact t_f148_l2 H x_2 x_1 F [] [] 0 _ ⟨h1, h2, h4, h5, h6, h7⟩ h
end
def e148 (F : Nat) : Ent := ent 148 (fun (x : ((Int × (List (Int × Int))) × (List Int) × Unit)) => s_l2Parts F x.1 x.2.1) (fun (r : (List (List Int))) => (Enc.enc (r : (List (List Int))))) 0 true []
theorem p148 {F : Nat} {x0 : (Int × (List (Int × Int)))} {x1 : (List Int)} {r : (List (List Int))} (h : s_l2Parts F x0 x1 = some r) : (e148 F).den [Enc.enc x0, Enc.enc x1] = some (Enc.enc (r : (List (List Int)))) := ent_put (x0, x1, ()) h
theorem o148 {D : Den} {σ : Sig} {F : Nat} (hF : Fits2 Try.prog D σ) (H : H148 D σ F) : (e148 F).Ok Try.prog := by
  refine ok_of (f := 148) (show unk 148 = 148 from rfl) (fun args r h => ?_) ⟨Try.f148, Try.func148, rfl, rfl⟩
  obtain ⟨⟨x0, x1, _⟩, y, rfl, hy, rfl⟩ := da_open h
  exact contract_run hF (by kernel_rfl) Try.func148 rfl c148 (show 2 ≤ Try.f148.ntmps by decide) (t148 H x0 x1 _ ⟨rfl, rfl⟩ hy)
/- loop.example/g01109/spec.l5Code -/
def A162_2 : AC := (.cond (.t 8) .skip (.exit 0))
def A162_4 : AC := (.reg [] [(jm 9 4), ((jv 10 (.bin .add (.t 9) (jn 1)))), (jm 4 10)] [])
def A162_3 : AC := (.seq (.block 1 (.reg [] [(jm 11 3), (jm 12 0), (jm 13 4), ((jv 14 (.idx (.t 12) (.t 13) 1))), ((jv 15 (.load .s (.t 14)))), ((jv 16 (.bin .shl (jn 1) (.t 15)))), ((jv 17 (.bin .add (.t 11) (.t 16)))), (jm 3 17)] [])) A162_4)
def A162_1 : AC := (.seq (.seq (.reg [] [(jm 5 4), (jm 6 0), ((jv 7 (.len (.t 6)))), ((jv 8 (.bin .lss (.t 5) (.t 7))))] []) A162_2) A162_3)
def A162_5 : AC := (.seq (.reg [] [(jm 18 3), (jm 2 18)] []) .ret)
def A162_8 : AC := (.block 0 (.loop A162_1))
def A162_7 : AC := (.seq (.seq (.reg [] [((jv 4 (.mov (jn 0))))] []) A162_8) A162_5)
def A162_6 : AC := (.seq (.reg [] [((jv 3 (.mov (jn 0))))] []) A162_7)
def A162 : AC := (.seq (.reg [] [((jv 2 (.mov (jn 0))))] []) A162_6)
def an162 : List An := []
theorem c162 : cC Try.prog Try.f162.ntmps an162 (Try.f162.body.getD .skip) = some A162 := by kernel_rfl
structure H162 (D : Den) (σ : Sig) (F : Nat) : Prop where
  mk ::
abbrev R162 (r : Int) : (Nat → V) → Prop := RR Try.prog [.tmp 2] 0 false (Enc.enc (r : Int))
section
variable {D : Den} {σ : Sig} {F : Nat} {r : Int}
def s_l5Code_l1 (F : Nat) (x_1 : (List Int))  : Nat → Int → Int → Option Int
  | 0, _, _ => none
  | k + 1, x_4, x_5 =>
    bif decide (x_5 < (x_1.length : Int)) then
      (idx x_1 x_5).bind fun e_8 =>
      (shlI .i64 1 e_8).bind fun q_9 =>
      (s_l5Code_l1 F x_1 k) (w64 (x_4 + q_9)) (w64 (x_5 + 1))
    else
      some x_4
theorem t_f162_l1 (H : H162 D σ F) (x_1 : (List Int))  : ∀ (k : Nat) (x_4 : Int) (x_5 : Int) (s : Nat → V), Facts [(0, (eL x_1)), (2, (ji 0)), (3, (ji x_4)), (4, (ji x_5))] s → s_l5Code_l1 F x_1 k x_4 x_5 = some r → Run D σ (R162 r) (.run A162_1 [.lp A162_1, .bk 0, .sq A162_5]) s := by
  intro k
  induction k with
  | zero => intro x_4 x_5 s _ h; exact nomatch (h : (none : Option _) = some r)
  | succ k ih =>
    intro x_4 x_5 s hs h
    rw [s_l5Code_l1] at h
    obtain ⟨h0, h2, h3, h4⟩ := hs
    refine .seq (.seq (rg (gm h4 fun h5 => gm h0 fun h6 => gv (ji (x_1.length : Int)) (ev_len (xs := x_1) h6) fun h7 => ?_)))
    refine g2 5 7 (jb (decide (x_5 < (x_1.length : Int)))) h5 h7 fun h8 => ?_
    refine gq (.nsq (run_cond (t := decide (x_5 < (x_1.length : Int))) h8 h (fun h => ?_) (fun h => ?_)))
    · refine .skip (.nsq (.seq (.block (rg (gm h3 fun h11 => gm h0 fun h12 => gm h4 fun h13 => ?_)))))
      obtain ⟨e_8, E_e_8, h⟩ := bind_some h
      refine gv (.ref .sh 0 [] (ji e_8)) (ev_idx (t := .sh) (lo := 0) (xs := x_1) h12 h13 E_e_8 rfl rfl) fun h14 => ?_
      refine g1 14 (ji e_8) h14 fun h15 => ?_
      obtain ⟨q_9, E_q_9, h⟩ := bind_some h
      refine gv (ji q_9) (ev_shl rfl h15 E_q_9) fun h16 => ?_
      refine g2 11 16 (ji (w64 (x_4 + q_9))) h11 h16 fun h17 => ?_
      refine gm h17 fun h3 => gq (.nbk (.nsq (rg (gm h4 fun h9 => g1 9 (ji (w64 (x_5 + 1))) h9 fun h10 => ?_))))
      refine gm h10 fun h4 => gq (.nlp ?_)
      exact ih (w64 (x_4 + q_9)) (w64 (x_5 + 1)) _ ⟨h0, h2, h3, h4⟩ h
    refine .exit (.esq (.elp (.ebk (.nsq (.seq (rg (gm h3 fun h18 => gm h18 fun h2 => gq (.nsq (.ret ?_)))))))))
    have hr := Option.some.inj h
    subst hr
    exact rrA (res_tmp h2) rfl
def s_l5Code (F : Nat) (x_1 : (List Int)) : Option Int :=
  s_l5Code_l1 F x_1 F 0 0
theorem t162 (H : H162 D σ F) (x_1 : (List Int)) (s : Nat → V) (hs : Facts [(0, (eL x_1))] s) (h : s_l5Code F x_1 = some r) : Run D σ (R162 r) (.run A162 []) s := by
  unfold s_l5Code at h
  have h0 := hs
  refine .seq (rg (g0 (ji 0) fun h2 => gq (.nsq (.seq (rg (g0 (ji 0) fun h3 => gq (.nsq (.seq (.seq (rg (g0 (ji 0) fun h4 => gq (.nsq (.block (.loop ?_))))))))))))))
  exact t_f162_l1 H x_1 F 0 0 _ ⟨h0, h2, h3, h4⟩ h
end
def e162 (F : Nat) : Ent := ent 162 (fun (x : ((List Int) × Unit)) => s_l5Code F x.1) (fun (r : Int) => (Enc.enc (r : Int))) 0 false []
theorem p162 {F : Nat} {x0 : (List Int)} {r : Int} (h : s_l5Code F x0 = some r) : (e162 F).den [Enc.enc x0] = some (Enc.enc (r : Int)) := ent_put (x0, ()) h
theorem o162 {D : Den} {σ : Sig} {F : Nat} (hF : Fits2 Try.prog D σ) (H : H162 D σ F) : (e162 F).Ok Try.prog := by
  refine ok_of (f := 162) (show unk 162 = 162 from rfl) (fun args r h => ?_) ⟨Try.f162, Try.func162, rfl, rfl⟩
  obtain ⟨⟨x0, _⟩, y, rfl, hy, rfl⟩ := da_open h
  exact contract_run hF (by kernel_rfl) Try.func162 rfl c162 (show 1 ≤ Try.f162.ntmps by decide) (t162 H x0 _ rfl hy)
/- loop.example/g01109/spec.l1Most -/
def A78_2 : AC := (.cond (.t 7) (.seq (.reg [] [(jm 8 0), (jm 4 8)] []) .ret) .skip)
def A78_3 : AC := (.seq (.reg [] [(jm 9 1), (jm 4 9)] []) .ret)
def A78_1 : AC := (.seq (.seq (.reg [] [(jm 5 0), (jm 6 1), ((jv 7 (.bin .gtr (.t 5) (.t 6))))] []) A78_2) A78_3)
def A78 : AC := (.seq (.reg [] [((jv 4 (.mov (jn 0))))] []) A78_1)
def an78 : List An := []
theorem c78 : cC Try.prog Try.f78.ntmps an78 (Try.f78.body.getD .skip) = some A78 := by kernel_rfl
structure H78 (D : Den) (σ : Sig) (F : Nat) : Prop where
  mk ::
abbrev R78 (r : Int) : (Nat → V) → Prop := RR Try.prog [.tmp 4] 0 false (Enc.enc (r : Int))
section
variable {D : Den} {σ : Sig} {F : Nat} {r : Int}
def s_l1Most (F : Nat) (x_1 : Int) (x_2 : Int) : Option Int :=
  bif decide (x_1 > x_2) then
    some x_1
  else
    some x_2
theorem t78 (H : H78 D σ F) (x_1 : Int) (x_2 : Int) (s : Nat → V) (hs : Facts [(0, (ji x_1)), (1, (ji x_2))] s) (h : s_l1Most F x_1 x_2 = some r) : Run D σ (R78 r) (.run A78 []) s := by
  unfold s_l1Most at h
  obtain ⟨h0, h1⟩ := hs
  refine .seq (rg (g0 (ji 0) fun h4 => gq (.nsq (.seq (.seq (rg (gm h0 fun h5 => gm h1 fun h6 => g2 5 6 (jb (decide (x_1 > x_2))) h5 h6 fun h7 => ?_)))))))
  refine gq (.nsq (run_cond (t := decide (x_1 > x_2)) h7 h (fun h => ?_) (fun h => ?_)))
  · refine .seq (rg (gm h0 fun h8 => gm h8 fun h4 => gq (.nsq (.ret ?_))))
    have hr := Option.some.inj h
    subst hr
    exact rrA (res_tmp h4) rfl
  refine .skip (.nsq (.seq (rg (gm h1 fun h9 => gm h9 fun h4 => gq (.nsq (.ret ?_))))))
  have hr := Option.some.inj h
  subst hr
  exact rrA (res_tmp h4) rfl
end
def e78 (F : Nat) : Ent := ent 78 (fun (x : (Int × Int × Unit)) => s_l1Most F x.1 x.2.1) (fun (r : Int) => (Enc.enc (r : Int))) 0 false []
theorem p78 {F : Nat} {x0 : Int} {x1 : Int} {r : Int} (h : s_l1Most F x0 x1 = some r) : (e78 F).den [Enc.enc x0, Enc.enc x1] = some (Enc.enc (r : Int)) := ent_put (x0, x1, ()) h
theorem o78 {D : Den} {σ : Sig} {F : Nat} (hF : Fits2 Try.prog D σ) (H : H78 D σ F) : (e78 F).Ok Try.prog := by
  refine ok_of (f := 78) (show unk 78 = 78 from rfl) (fun args r h => ?_) ⟨Try.f78, Try.func78, rfl, rfl⟩
  obtain ⟨⟨x0, x1, _⟩, y, rfl, hy, rfl⟩ := da_open h
  exact contract_run hF (by kernel_rfl) Try.func78 rfl c78 (show 2 ≤ Try.f78.ntmps by decide) (t78 H x0 x1 _ ⟨rfl, rfl⟩ hy)
/- loop.example/g01109/spec.l1Least -/
def A122_2 : AC := (.cond (.t 7) (.seq (.reg [] [(jm 8 0), (jm 4 8)] []) .ret) .skip)
def A122_3 : AC := (.seq (.reg [] [(jm 9 1), (jm 4 9)] []) .ret)
def A122_1 : AC := (.seq (.seq (.reg [] [(jm 5 0), (jm 6 1), ((jv 7 (.bin .lss (.t 5) (.t 6))))] []) A122_2) A122_3)
def A122 : AC := (.seq (.reg [] [((jv 4 (.mov (jn 0))))] []) A122_1)
def an122 : List An := []
theorem c122 : cC Try.prog Try.f122.ntmps an122 (Try.f122.body.getD .skip) = some A122 := by kernel_rfl
structure H122 (D : Den) (σ : Sig) (F : Nat) : Prop where
  mk ::
abbrev R122 (r : Int) : (Nat → V) → Prop := RR Try.prog [.tmp 4] 0 false (Enc.enc (r : Int))
section
variable {D : Den} {σ : Sig} {F : Nat} {r : Int}
def s_l1Least (F : Nat) (x_1 : Int) (x_2 : Int) : Option Int :=
  bif decide (x_1 < x_2) then
    some x_1
  else
    some x_2
theorem t122 (H : H122 D σ F) (x_1 : Int) (x_2 : Int) (s : Nat → V) (hs : Facts [(0, (ji x_1)), (1, (ji x_2))] s) (h : s_l1Least F x_1 x_2 = some r) : Run D σ (R122 r) (.run A122 []) s := by
  unfold s_l1Least at h
  obtain ⟨h0, h1⟩ := hs
  refine .seq (rg (g0 (ji 0) fun h4 => gq (.nsq (.seq (.seq (rg (gm h0 fun h5 => gm h1 fun h6 => g2 5 6 (jb (decide (x_1 < x_2))) h5 h6 fun h7 => ?_)))))))
  refine gq (.nsq (run_cond (t := decide (x_1 < x_2)) h7 h (fun h => ?_) (fun h => ?_)))
  · refine .seq (rg (gm h0 fun h8 => gm h8 fun h4 => gq (.nsq (.ret ?_))))
    have hr := Option.some.inj h
    subst hr
    exact rrA (res_tmp h4) rfl
  refine .skip (.nsq (.seq (rg (gm h1 fun h9 => gm h9 fun h4 => gq (.nsq (.ret ?_))))))
  have hr := Option.some.inj h
  subst hr
  exact rrA (res_tmp h4) rfl
end
def e122 (F : Nat) : Ent := ent 122 (fun (x : (Int × Int × Unit)) => s_l1Least F x.1 x.2.1) (fun (r : Int) => (Enc.enc (r : Int))) 0 false []
theorem p122 {F : Nat} {x0 : Int} {x1 : Int} {r : Int} (h : s_l1Least F x0 x1 = some r) : (e122 F).den [Enc.enc x0, Enc.enc x1] = some (Enc.enc (r : Int)) := ent_put (x0, x1, ()) h
theorem o122 {D : Den} {σ : Sig} {F : Nat} (hF : Fits2 Try.prog D σ) (H : H122 D σ F) : (e122 F).Ok Try.prog := by
  refine ok_of (f := 122) (show unk 122 = 122 from rfl) (fun args r h => ?_) ⟨Try.f122, Try.func122, rfl, rfl⟩
  obtain ⟨⟨x0, x1, _⟩, y, rfl, hy, rfl⟩ := da_open h
  exact contract_run hF (by kernel_rfl) Try.func122 rfl c122 (show 2 ≤ Try.f122.ntmps by decide) (t122 H x0 x1 _ ⟨rfl, rfl⟩ hy)
/- loop.example/g01109/spec.l7Depths -/
def A107_2 : AC := (.cond (.t 15) .skip (.exit 0))
def A107_9 : AC := (.cond (.t 33) .skip (.exit 2))
def A107_11 : AC := (.reg [] [(jm 34 8), ((jv 35 (.bin .add (.t 34) (jn 1)))), (jm 8 35)] [])
def A107_10 : AC := (.seq (.block 3 (.reg [] [(jm 36 7), (jm 37 3), (jm 38 6), (jm 39 8), ((jv 40 (.idx (.t 38) (.t 39) 1))), ((jv 41 (.load .p (.t 40)))), (.mk (some 42) none false (.call (.k (.fn 162 [] [])) [(.t 41)])), ((jv 43 (.idx (.t 37) (.t 42) 1))), ((jv 44 (.load .s (.t 43)))), (.mk (some 45) none false (.call (.k (.fn 78 [] [])) [(.t 36), (.t 44)])), (jm 7 45)] [])) A107_11)
def A107_8 : AC := (.seq (.seq (.reg [] [(jm 25 8), (jm 26 6), ((jv 27 (.len (.t 26)))), ((jv 28 (.bin .lss (.t 25) (.t 27)))), (jm 29 28), ((jg 30 29 true (.mov (.t 6)))), ((jg 31 29 true (.len (.t 30)))), ((jg 32 29 true (.bin .gtr (.t 31) (jn 1)))), ((jv 33 (.pick (.t 29) (.t 32) (.k (.bool false)))))] []) A107_9) A107_10)
def A107_7 : AC := (.block 2 (.loop A107_8))
def A107_17 : AC := (.cond (.t 54) .skip (.exit 4))
def A107_19 : AC := (.reg [] [(jm 55 9), ((jv 56 (.bin .add (.t 55) (jn 1)))), (jm 9 56)] [])
def A107_18 : AC := (.seq (.block 5 (.reg [] [(jm 57 7), (jm 58 3), (jm 59 4), (jm 60 5), (jm 61 9), ((jv 62 (.idx (.t 60) (.t 61) 1))), ((jv 63 (.load .s (.t 62)))), ((jv 64 (.bin .shl (jn 1) (.t 63)))), ((jv 65 (.bin .sub (.t 59) (.t 64)))), ((jv 66 (.idx (.t 58) (.t 65) 1))), ((jv 67 (.load .s (.t 66)))), ((jv 68 (.bin .add (jn 1) (.t 67)))), (.mk (some 69) none false (.call (.k (.fn 122 [] [])) [(.t 57), (.t 68)])), (jm 7 69)] [])) A107_19)
def A107_16 : AC := (.seq (.seq (.reg [] [(jm 51 9), (jm 52 5), ((jv 53 (.len (.t 52)))), ((jv 54 (.bin .lss (.t 51) (.t 53))))] []) A107_17) A107_18)
def A107_15 : AC := (.block 4 (.loop A107_16))
def A107_14 : AC := (.seq (.reg [] [((jv 9 (.mov (jn 0))))] []) A107_15)
def A107_13 : AC := (.cond (.t 48) (.seq (.reg [] [((jv 49 (.fld (.t 1) 0 0))), ((jv 50 (.load .s (.t 49)))), (jm 7 50)] []) A107_14) .skip)
def A107_20 : AC := (.reg [.clr [72, 73]] [(jm 70 3), (jm 71 7), (.mk (some 72) none false (.lit (.int .i64 (.ofNat 0)) 1 [(0, 0, (.t 71))])), (.mk (some 73) none false (.app .s (.t 70) (.t 72))), (jm 3 73)] [.home 73 3])
def A107_12 : AC := (.seq (.seq (.reg [] [(jm 46 6), ((jv 47 (.len (.t 46)))), ((jv 48 (.bin .eql (.t 47) (jn 1))))] []) A107_13) A107_20)
def A107_6 : AC := (.seq (.seq (.reg [] [((jv 8 (.mov (jn 0))))] []) A107_7) A107_12)
def A107_5 : AC := (.seq (.reg [] [((jv 7 (.mov (jn 0))))] []) A107_6)
def A107_4 : AC := (.seq (.reg [] [((jv 22 (.load (.ag [.s, .p]) (.t 1)))), (jm 23 5), (.mk (some 24) none false (.call (.k (.fn 148 [] [])) [(.t 22), (.t 23)])), (jm 6 24)] []) A107_5)
def A107_21 : AC := (.reg [] [(jm 16 4), ((jv 17 (.bin .add (.t 16) (jn 1)))), (jm 4 17)] [])
def A107_3 : AC := (.seq (.block 1 (.seq (.reg [] [((jv 18 (.fld (.t 1) 0 0))), ((jv 19 (.load .s (.t 18)))), (jm 20 4), (.mk (some 21) none false (.call (.k (.fn 87 [] [])) [(.t 19), (.t 20)])), (jm 5 21)] []) A107_4)) A107_21)
def A107_1 : AC := (.seq (.seq (.reg [] [(jm 11 4), ((jv 12 (.fld (.t 1) 0 0))), ((jv 13 (.load .s (.t 12)))), ((jv 14 (.bin .shl (jn 1) (.t 13)))), ((jv 15 (.bin .lss (.t 11) (.t 14))))] []) A107_2) A107_3)
def A107_22 : AC := (.seq (.reg [] [(jm 74 3), (jm 2 74)] [.home 3 2]) .ret)
def A107_25 : AC := (.block 0 (.loop A107_1))
def A107_24 : AC := (.seq (.seq (.reg [] [((jv 4 (.mov (jn 1))))] []) A107_25) A107_22)
def A107_23 : AC := (.seq (.reg [.clr [10]] [(.mk (some 10) none false (.lit (.int .i64 (.ofNat 0)) 1 [(0, 0, (jn 0))])), (jm 3 10)] [.home 10 3]) A107_24)
def A107 : AC := (.seq (.reg [.clr [1]] [(.mk (some 1) none false (.box (.t 0))), ((jv 2 (.mov (.k (.sl .nl .s 0 [])))))] []) A107_23)
def an107 : List An := [{ id := 0, pre := [.clr [1]], ep := [], lin := [], sp := [] }, { id := 1, pre := [.clr [10]], ep := [.home 10 3], lin := [], sp := [] }, { id := 18, pre := [.clr [72, 73]], ep := [.home 73 3], lin := [], sp := [] }, { id := 19, pre := [], ep := [.home 3 2], lin := [], sp := [] }]
theorem c107 : cC Try.prog Try.f107.ntmps an107 (Try.f107.body.getD .skip) = some A107 := by kernel_rfl
structure H107 (D : Den) (σ : Sig) (F : Nat) : Prop where
  c87 : ∀ (x0 : Int) (x1 : Int) r, s_l2Bits F x0 x1 = some r → D 87 [Enc.enc x0, Enc.enc x1] = some (Enc.enc (r : (List Int)))
  g87 : σ 87 = some (0, false)
  c148 : ∀ (x0 : (Int × (List (Int × Int)))) (x1 : (List Int)) r, s_l2Parts F x0 x1 = some r → D 148 [Enc.enc x0, Enc.enc x1] = some (Enc.enc (r : (List (List Int))))
  g148 : σ 148 = some (0, true)
  c162 : ∀ (x0 : (List Int)) r, s_l5Code F x0 = some r → D 162 [Enc.enc x0] = some (Enc.enc (r : Int))
  g162 : σ 162 = some (0, false)
  c78 : ∀ (x0 : Int) (x1 : Int) r, s_l1Most F x0 x1 = some r → D 78 [Enc.enc x0, Enc.enc x1] = some (Enc.enc (r : Int))
  g78 : σ 78 = some (0, false)
  c122 : ∀ (x0 : Int) (x1 : Int) r, s_l1Least F x0 x1 = some r → D 122 [Enc.enc x0, Enc.enc x1] = some (Enc.enc (r : Int))
  g122 : σ 122 = some (0, false)
abbrev R107 (r : (List Int)) : (Nat → V) → Prop := RR Try.prog [.tmp 2] 0 false (Enc.enc (r : (List Int)))
section
variable {D : Den} {σ : Sig} {F : Nat} {r : (List Int)}
def s_l7Depths_j1 (F : Nat) (x_1 : (Int × (List (Int × Int)))) (x_52 : (List Int)) (x_53 : Int) (c1 : (List Int) → Int → Option (List Int)) (x_138 : Int) : Option (List Int) :=
  (appL x_52 [x_138]).bind fun ap_139 =>
  c1 ap_139 (w64 (x_53 + 1))
theorem t_f107_j1 (H : H107 D σ F) (x_1 : (Int × (List (Int × Int)))) (x_52 : (List Int)) (x_53 : Int) (c1 : (List Int) → Int → Option (List Int)) (Hc1 : ∀ (x_52 : (List Int)) (x_53 : Int) (s : Nat → V), Facts [(1, (.ref (.bx 1) 0 [] (.agg [(ji x_1.1), (Enc.enc (x_1.2 : List (Int × Int)))]))), (2, (.sl .nl (Enc.shp Int) 0 [])), (3, (oI 3 [] (.of x_52))), (4, (ji x_53))] s → c1 x_52 x_53 = some r → Run D σ (R107 r) (.run A107_1 [.lp A107_1, .bk 0, .sq A107_22]) s) (x_138 : Int) (s : Nat → V) (hs : Facts [(1, (.ref (.bx 1) 0 [] (.agg [(ji x_1.1), (Enc.enc (x_1.2 : List (Int × Int)))]))), (2, (.sl .nl (Enc.shp Int) 0 [])), (3, (oI 3 [] (.of x_52))), (4, (ji x_53)), (7, (ji x_138))] s) (h : s_l7Depths_j1 F x_1 x_52 x_53 c1 x_138 = some r) : Run D σ (R107 r) (.nrm [.sq A107_20, .bk 1, .sq A107_21, .lp A107_1, .bk 0, .sq A107_22]) s := by
  unfold s_l7Depths_j1 at h
  obtain ⟨h1, h2, h3, h4, h7⟩ := hs
  refine .nsq (run_reg ?_)
  refine e_clr ?_
  refine ez [(1, _), (2, _), (3, _), (4, _), (7, _), (72, _), (73, _)] ⟨(keep_clear (pk := [72, 73]) h1 rfl (map_bx rfl (map_agg (maps_cons mi (maps_cons me maps_nil))))), (keep_clear (pk := [72, 73]) h2 rfl rfl), (keep_clear (pk := [72, 73]) h3 rfl (map_encO (r := 3) (p := []) rfl rfl)), (keep_clear (pk := [72, 73]) h4 rfl mi), (keep_clear (pk := [72, 73]) h7 rfl mi), (gone_clear (pk := [72, 73]) (t := 72) rfl), (gone_clear (pk := [72, 73]) (t := 73) rfl)⟩ ?_
  rintro s ⟨h1, h2, h3, h4, h7, h72, h73⟩
  refine gm h3 fun h70 => gm h7 fun h71 => g_litL [(71, (ji x_138))] [Enc.enc (x_138 : Int)] h71 rfl rfl h72 ?_
  obtain ⟨ap_139, E_ap_139, h⟩ := bind_some h
  refine g_app (q := 3) (p := []) (o := (.of (x_52 : List Int))) (ys := ([x_138] : List Int)) (t2 := (.at 72 [])) (lo2 := 0) h70 rfl rfl h73 (appN_L (o := (.of (x_52 : List Int))) E_ap_139 trivial) (fun s_11 ha_11 => ?_)
  refine gm (rfl : (_ : V) = (oI 73 [] (.of ap_139))) fun h3 => ?_
  refine g_end ?_
  refine e_home (r := 73) (x := 3) (v := _) h3 rfl (fun s_12 hg_12 => ?_)
  refine ez [(1, (.ref (.bx 1) 0 [] (.agg [(ji x_1.1), (Enc.enc (x_1.2 : List (Int × Int)))]))), (2, (.sl .nl (Enc.shp Int) 0 [])), (3, (oI 3 [] (.of ap_139))), (4, (ji x_53))] ⟨(hg_12 1 _ _ (show s_11 1 = (.ref (.bx 1) 0 [] (.agg [(ji x_1.1), (Enc.enc (x_1.2 : List (Int × Int)))])) from keep_app ha_11 h1 (map_bx rfl (map_agg (maps_cons mi (maps_cons me maps_nil))))) (map_bx rfl (map_agg (maps_cons mi (maps_cons me maps_nil))))), (hg_12 2 _ (.sl .nl (Enc.shp Int) 0 []) (show s_11 2 = (.sl .nl (Enc.shp Int) 0 []) from keep_app ha_11 h2 rfl) rfl), (hg_12 3 _ _ h3 (map_encO (r := 73) (p := []) rfl rfl)), (hg_12 4 _ _ (show s_11 4 = (ji x_53) from keep_app ha_11 h4 mi) mi)⟩ ?_
  rintro s ⟨h1, h2, h3, h4⟩
  refine .nbk (.nsq (rg (gm h4 fun h16 => g1 16 (ji (w64 (x_53 + 1))) h16 fun h17 => ?_)))
  refine gm h17 fun h4 => gq (.nlp ?_)
  exact Hc1 ap_139 (w64 (x_53 + 1)) _ ⟨h1, h2, h3, h4⟩ h
def s_l7Depths_l1 (F : Nat) (x_1 : (Int × (List (Int × Int)))) (x_52 : (List Int)) (x_53 : Int) (r_105 : (List Int)) (c1 : (List Int) → Int → Option (List Int)) : Nat → Int → Int → Option (List Int)
  | 0, _, _ => none
  | k + 1, x_144, x_145 =>
    bif decide (x_145 < (r_105.length : Int)) then
      (idx r_105 x_145).bind fun e_150 =>
      (shlI .i64 1 e_150).bind fun q_151 =>
      (idx x_52 (w64 (x_53 - q_151))).bind fun e_152 =>
      (s_l1Least F x_144 (w64 (1 + e_152))).bind fun r_153 =>
      (s_l7Depths_l1 F x_1 x_52 x_53 r_105 c1 k) r_153 (w64 (x_145 + 1))
    else
      s_l7Depths_j1 F x_1 x_52 x_53 c1 x_144
theorem t_f107_l1 (H : H107 D σ F) (x_1 : (Int × (List (Int × Int)))) (x_52 : (List Int)) (x_53 : Int) (r_105 : (List Int)) (c1 : (List Int) → Int → Option (List Int)) (Hc1 : ∀ (x_52 : (List Int)) (x_53 : Int) (s : Nat → V), Facts [(1, (.ref (.bx 1) 0 [] (.agg [(ji x_1.1), (Enc.enc (x_1.2 : List (Int × Int)))]))), (2, (.sl .nl (Enc.shp Int) 0 [])), (3, (oI 3 [] (.of x_52))), (4, (ji x_53))] s → c1 x_52 x_53 = some r → Run D σ (R107 r) (.run A107_1 [.lp A107_1, .bk 0, .sq A107_22]) s) : ∀ (k : Nat) (x_144 : Int) (x_145 : Int) (s : Nat → V), Facts [(1, (.ref (.bx 1) 0 [] (.agg [(ji x_1.1), (Enc.enc (x_1.2 : List (Int × Int)))]))), (2, (.sl .nl (Enc.shp Int) 0 [])), (3, (oI 3 [] (.of x_52))), (4, (ji x_53)), (5, (eL r_105)), (7, (ji x_144)), (9, (ji x_145))] s → s_l7Depths_l1 F x_1 x_52 x_53 r_105 c1 k x_144 x_145 = some r → Run D σ (R107 r) (.run A107_16 [.lp A107_16, .bk 4, .sq A107_20, .bk 1, .sq A107_21, .lp A107_1, .bk 0, .sq A107_22]) s := by
  intro k
  induction k with
  | zero => intro x_144 x_145 s _ h; exact nomatch (h : (none : Option _) = some r)
  | succ k ih =>
    intro x_144 x_145 s hs h
    rw [s_l7Depths_l1] at h
    obtain ⟨h1, h2, h3, h4, h5, h7, h9⟩ := hs
    refine .seq (.seq (rg (gm h9 fun h51 => gm h5 fun h52 => gv (ji (r_105.length : Int)) (ev_len (xs := r_105) h52) fun h53 => ?_)))
    refine g2 51 53 (jb (decide (x_145 < (r_105.length : Int)))) h51 h53 fun h54 => ?_
    refine gq (.nsq (run_cond (t := decide (x_145 < (r_105.length : Int))) h54 h (fun h => ?_) (fun h => ?_)))
    · refine .skip (.nsq (.seq (.block (rg (gm h7 fun h57 => gm h3 fun h58 => gm h4 fun h59 => gm h5 fun h60 => gm h9 fun h61 => ?_)))))
      obtain ⟨e_150, E_e_150, h⟩ := bind_some h
      refine gv (.ref .sh 0 [] (ji e_150)) (ev_idx (t := .sh) (lo := 0) (xs := r_105) h60 h61 E_e_150 rfl rfl) fun h62 => ?_
      refine g1 62 (ji e_150) h62 fun h63 => ?_
      obtain ⟨q_151, E_q_151, h⟩ := bind_some h
      refine gv (ji q_151) (ev_shl rfl h63 E_q_151) fun h64 => ?_
      refine g2 59 64 (ji (w64 (x_53 - q_151))) h59 h64 fun h65 => ?_
      obtain ⟨e_152, E_e_152, h⟩ := bind_some h
      refine gv (.ref (.at 3 []) ((w64 (x_53 - q_151)).toNat) [] (ji e_152)) (ev_idxO (o := (.of x_52)) h58 h65 E_e_152 rfl) fun h66 => ?_
      refine g1 66 (ji e_152) h66 fun h67 => ?_
      refine g1 67 (ji (w64 (1 + e_152))) h67 fun h68 => ?_
      obtain ⟨r_153, E_r_153, h⟩ := bind_some h
      refine g_call (m := 0) (al := false) (r := (Enc.enc (r_153 : Int))) [Enc.enc (x_144 : Int), Enc.enc (w64 (1 + e_152) : Int)] (ta_cons (v := (ji x_144)) h57 rfl rfl (ta_cons (v := (ji (w64 (1 + e_152)))) h68 rfl rfl ta_nil)) (H.c122 _ _ _ E_r_153) H.g122 rfl rfl rfl rfl ?_
      refine gm (rfl : (_ : V) = (ji r_153)) fun h7 => ?_
      refine gz [(1, _), (2, _), (3, _), (4, _), (5, _), (7, _), (9, _)] ⟨h1, h2, h3, h4, h5, h7, h9⟩ ?_
      rintro s ⟨h1, h2, h3, h4, h5, h7, h9⟩
      refine .nbk (.nsq (rg (gm h9 fun h55 => g1 55 (ji (w64 (x_145 + 1))) h55 fun h56 => ?_)))
      refine gm h56 fun h9 => gq (.nlp ?_)
      exact ih r_153 (w64 (x_145 + 1)) _ ⟨h1, h2, h3, h4, h5, h7, h9⟩ h
    refine .exit (.esq (.elp (.ebk ?_)))
    exact t_f107_j1 H x_1 x_52 x_53 c1 Hc1 x_144 _ ⟨h1, h2, h3, h4, h7⟩ h
def s_l7Depths_j2 (F : Nat) (x_1 : (Int × (List (Int × Int)))) (x_52 : (List Int)) (x_53 : Int) (r_105 : (List Int)) (r_106 : (List (List Int))) (x_112 : Int) (x_113 : Int) (c1 : (List Int) → Int → Option (List Int)) (c8 : Int → Int → Option (List Int)) (x_119 : Bool) : Option (List Int) :=
  bif x_119 then
    (idx r_106 x_113).bind fun e_120 =>
    (s_l5Code F e_120).bind fun r_121 =>
    (idx x_52 r_121).bind fun e_122 =>
    (s_l1Most F x_112 e_122).bind fun r_123 =>
    c8 r_123 (w64 (x_113 + 1))
  else
    bif ((r_106.length : Int) == 1) then
      s_l7Depths_l1 F x_1 x_52 x_53 r_105 c1 F x_1.1 0
    else
      s_l7Depths_j1 F x_1 x_52 x_53 c1 x_112
theorem t_f107_j2 (H : H107 D σ F) (x_1 : (Int × (List (Int × Int)))) (x_52 : (List Int)) (x_53 : Int) (r_105 : (List Int)) (r_106 : (List (List Int))) (x_112 : Int) (x_113 : Int) (c1 : (List Int) → Int → Option (List Int)) (Hc1 : ∀ (x_52 : (List Int)) (x_53 : Int) (s : Nat → V), Facts [(1, (.ref (.bx 1) 0 [] (.agg [(ji x_1.1), (Enc.enc (x_1.2 : List (Int × Int)))]))), (2, (.sl .nl (Enc.shp Int) 0 [])), (3, (oI 3 [] (.of x_52))), (4, (ji x_53))] s → c1 x_52 x_53 = some r → Run D σ (R107 r) (.run A107_1 [.lp A107_1, .bk 0, .sq A107_22]) s) (c8 : Int → Int → Option (List Int)) (Hc8 : ∀ (x_112 : Int) (x_113 : Int) (s : Nat → V), Facts [(1, (.ref (.bx 1) 0 [] (.agg [(ji x_1.1), (Enc.enc (x_1.2 : List (Int × Int)))]))), (2, (.sl .nl (Enc.shp Int) 0 [])), (3, (oI 3 [] (.of x_52))), (4, (ji x_53)), (5, (eL r_105)), (6, (Enc.enc (r_106 : List (List Int)))), (7, (ji x_112)), (8, (ji x_113))] s → c8 x_112 x_113 = some r → Run D σ (R107 r) (.run A107_8 [.lp A107_8, .bk 2, .sq A107_12, .bk 1, .sq A107_21, .lp A107_1, .bk 0, .sq A107_22]) s) (x_119 : Bool) (s : Nat → V) (hs : Facts [(1, (.ref (.bx 1) 0 [] (.agg [(ji x_1.1), (Enc.enc (x_1.2 : List (Int × Int)))]))), (2, (.sl .nl (Enc.shp Int) 0 [])), (3, (oI 3 [] (.of x_52))), (4, (ji x_53)), (5, (eL r_105)), (6, (Enc.enc (r_106 : List (List Int)))), (7, (ji x_112)), (8, (ji x_113)), (33, (jb x_119))] s) (h : s_l7Depths_j2 F x_1 x_52 x_53 r_105 r_106 x_112 x_113 c1 c8 x_119 = some r) : Run D σ (R107 r) (.nrm [.sq A107_9, .sq A107_10, .lp A107_8, .bk 2, .sq A107_12, .bk 1, .sq A107_21, .lp A107_1, .bk 0, .sq A107_22]) s := by
  unfold s_l7Depths_j2 at h
  obtain ⟨h1, h2, h3, h4, h5, h6, h7, h8, h33⟩ := hs
  refine .nsq (run_cond (t := x_119) h33 h (fun h => ?_) (fun h => ?_))
  · refine .skip (.nsq (.seq (.block (rg (gm h7 fun h36 => gm h3 fun h37 => gm h6 fun h38 => gm h8 fun h39 => ?_)))))
    obtain ⟨e_120, E_e_120, h⟩ := bind_some h
    refine gv (.ref .sh 0 [] (eL e_120)) (ev_idx (t := .sh) (lo := 0) (xs := r_106) h38 h39 E_e_120 rfl rfl) fun h40 => ?_
    refine g1 40 (eL e_120) h40 fun h41 => ?_
    obtain ⟨r_121, E_r_121, h⟩ := bind_some h
    refine g_call (m := 0) (al := false) (r := (Enc.enc (r_121 : Int))) [Enc.enc (e_120 : (List Int))] (ta_cons (v := (eL e_120)) h41 rfl (Enc.erase_enc (e_120 : (List Int))) ta_nil) (H.c162 _ _ E_r_121) H.g162 rfl rfl rfl rfl ?_
    obtain ⟨e_122, E_e_122, h⟩ := bind_some h
    refine gv (.ref (.at 3 []) r_121.toNat [] (ji e_122)) (ev_idxO (o := (.of x_52)) h37 rfl E_e_122 rfl) fun h43 => ?_
    refine g1 43 (ji e_122) h43 fun h44 => ?_
    obtain ⟨r_123, E_r_123, h⟩ := bind_some h
    refine g_call (m := 0) (al := false) (r := (Enc.enc (r_123 : Int))) [Enc.enc (x_112 : Int), Enc.enc (e_122 : Int)] (ta_cons (v := (ji x_112)) h36 rfl rfl (ta_cons (v := (ji e_122)) h44 rfl rfl ta_nil)) (H.c78 _ _ _ E_r_123) H.g78 rfl rfl rfl rfl ?_
    refine gm (rfl : (_ : V) = (ji r_123)) fun h7 => ?_
    refine gq (.nbk (.nsq (rg (gm h8 fun h34 => g1 34 (ji (w64 (x_113 + 1))) h34 fun h35 => ?_))))
    refine gm h35 fun h8 => gz [(1, _), (2, _), (3, _), (4, _), (5, _), (6, _), (7, _), (8, _)] ⟨h1, h2, h3, h4, h5, h6, h7, h8⟩ ?_
    rintro s ⟨h1, h2, h3, h4, h5, h6, h7, h8⟩
    refine .nlp ?_
    exact Hc8 r_123 (w64 (x_113 + 1)) _ ⟨h1, h2, h3, h4, h5, h6, h7, h8⟩ h
  refine .exit (.esq (.elp (.ebk (.nsq (.seq (.seq (rg (gm h6 fun h46 => gv (ji (r_106.length : Int)) (ev_len (xs := r_106) h46) fun h47 => ?_))))))))
  refine g1 47 (jb ((r_106.length : Int) == 1)) h47 fun h48 => ?_
  refine gq (.nsq (run_cond (t := ((r_106.length : Int) == 1)) h48 h (fun h => ?_) (fun h => ?_)))
  · refine .seq (rg (g1 1 (.ref (.bx 1) 0 [0] (ji x_1.1)) h1 fun h49 => ?_))
    refine g1 49 (ji x_1.1) h49 fun h50 => ?_
    refine gm h50 fun h7 => gq (.nsq (.seq (rg (g0 (ji 0) fun h9 => gq (.nsq (.block (.loop ?_)))))))
    exact t_f107_l1 H x_1 x_52 x_53 r_105 c1 Hc1 F x_1.1 0 _ ⟨h1, h2, h3, h4, h5, h7, h9⟩ h
  refine .skip ?_
  exact t_f107_j1 H x_1 x_52 x_53 c1 Hc1 x_112 _ ⟨h1, h2, h3, h4, h7⟩ h
def s_l7Depths_l2 (F : Nat) (x_1 : (Int × (List (Int × Int)))) (x_52 : (List Int)) (x_53 : Int) (r_105 : (List Int)) (r_106 : (List (List Int))) (c1 : (List Int) → Int → Option (List Int)) : Nat → Int → Int → Option (List Int)
  | 0, _, _ => none
  | k + 1, x_112, x_113 =>
    bif decide (x_113 < (r_106.length : Int)) then
      s_l7Depths_j2 F x_1 x_52 x_53 r_105 r_106 x_112 x_113 c1 (s_l7Depths_l2 F x_1 x_52 x_53 r_105 r_106 c1 k) (decide ((r_106.length : Int) > 1))
    else
      s_l7Depths_j2 F x_1 x_52 x_53 r_105 r_106 x_112 x_113 c1 (s_l7Depths_l2 F x_1 x_52 x_53 r_105 r_106 c1 k) false
theorem t_f107_l2 (H : H107 D σ F) (x_1 : (Int × (List (Int × Int)))) (x_52 : (List Int)) (x_53 : Int) (r_105 : (List Int)) (r_106 : (List (List Int))) (c1 : (List Int) → Int → Option (List Int)) (Hc1 : ∀ (x_52 : (List Int)) (x_53 : Int) (s : Nat → V), Facts [(1, (.ref (.bx 1) 0 [] (.agg [(ji x_1.1), (Enc.enc (x_1.2 : List (Int × Int)))]))), (2, (.sl .nl (Enc.shp Int) 0 [])), (3, (oI 3 [] (.of x_52))), (4, (ji x_53))] s → c1 x_52 x_53 = some r → Run D σ (R107 r) (.run A107_1 [.lp A107_1, .bk 0, .sq A107_22]) s) : ∀ (k : Nat) (x_112 : Int) (x_113 : Int) (s : Nat → V), Facts [(1, (.ref (.bx 1) 0 [] (.agg [(ji x_1.1), (Enc.enc (x_1.2 : List (Int × Int)))]))), (2, (.sl .nl (Enc.shp Int) 0 [])), (3, (oI 3 [] (.of x_52))), (4, (ji x_53)), (5, (eL r_105)), (6, (Enc.enc (r_106 : List (List Int)))), (7, (ji x_112)), (8, (ji x_113))] s → s_l7Depths_l2 F x_1 x_52 x_53 r_105 r_106 c1 k x_112 x_113 = some r → Run D σ (R107 r) (.run A107_8 [.lp A107_8, .bk 2, .sq A107_12, .bk 1, .sq A107_21, .lp A107_1, .bk 0, .sq A107_22]) s := by
  intro k
  induction k with
  | zero => intro x_112 x_113 s _ h; exact nomatch (h : (none : Option _) = some r)
  | succ k ih =>
    intro x_112 x_113 s hs h
    rw [s_l7Depths_l2] at h
    obtain ⟨h1, h2, h3, h4, h5, h6, h7, h8⟩ := hs
    refine .seq (.seq (rg (gm h8 fun h25 => gm h6 fun h26 => gv (ji (r_106.length : Int)) (ev_len (xs := r_106) h26) fun h27 => ?_)))
    refine g2 25 27 (jb (decide (x_113 < (r_106.length : Int)))) h25 h27 fun h28 => ?_
    refine gm h28 fun h29 => split_on (c := decide (x_113 < (r_106.length : Int))) h (fun hg5 h => ?_) (fun hg5 h => ?_)
    · refine g_yes (h29.trans (congrArg V.bool hg5)) (gm h6 fun h30 => ?_)
      refine g_yes (h29.trans (congrArg V.bool hg5)) (gv (ji (r_106.length : Int)) (ev_len (xs := r_106) h30) fun h31 => ?_)
      refine g_yes (h29.trans (congrArg V.bool hg5)) (g1 31 (jb (decide ((r_106.length : Int) > 1))) h31 fun h32 => ?_)
      refine g2 29 32 (jb (decide ((r_106.length : Int) > 1))) (h29.trans (congrArg V.bool hg5)) h32 fun h33 => ?_
      refine gq ?_
      exact t_f107_j2 H x_1 x_52 x_53 r_105 r_106 x_112 x_113 c1 Hc1 (s_l7Depths_l2 F x_1 x_52 x_53 r_105 r_106 c1 k) ih (decide ((r_106.length : Int) > 1)) _ ⟨h1, h2, h3, h4, h5, h6, h7, h8, h33⟩ h
    refine g_no (h29.trans (congrArg V.bool hg5)) ?_
    refine g_no (h29.trans (congrArg V.bool hg5)) ?_
    refine g_no (h29.trans (congrArg V.bool hg5)) ?_
    refine g2 29 32 (jb false) (h29.trans (congrArg V.bool hg5)) (rfl : (_ : V) = (.tup [])) fun h33 => ?_
    refine gq ?_
    exact t_f107_j2 H x_1 x_52 x_53 r_105 r_106 x_112 x_113 c1 Hc1 (s_l7Depths_l2 F x_1 x_52 x_53 r_105 r_106 c1 k) ih false _ ⟨h1, h2, h3, h4, h5, h6, h7, h8, h33⟩ h
def s_l7Depths_l3 (F : Nat) (x_1 : (Int × (List (Int × Int))))  : Nat → (List Int) → Int → Option (List Int)
  | 0, _, _ => none
  | k + 1, x_52, x_53 =>
    (shlI .i64 1 x_1.1).bind fun q_104 =>
    bif decide (x_53 < q_104) then
      (s_l2Bits F x_1.1 x_53).bind fun r_105 =>
      (s_l2Parts F x_1 r_105).bind fun r_106 =>
      s_l7Depths_l2 F x_1 x_52 x_53 r_105 r_106 (s_l7Depths_l3 F x_1 k) F 0 0
    else
      some x_52
theorem t_f107_l3 (H : H107 D σ F) (x_1 : (Int × (List (Int × Int))))  : ∀ (k : Nat) (x_52 : (List Int)) (x_53 : Int) (s : Nat → V), Facts [(1, (.ref (.bx 1) 0 [] (.agg [(ji x_1.1), (Enc.enc (x_1.2 : List (Int × Int)))]))), (2, (.sl .nl (Enc.shp Int) 0 [])), (3, (oI 3 [] (.of x_52))), (4, (ji x_53))] s → s_l7Depths_l3 F x_1 k x_52 x_53 = some r → Run D σ (R107 r) (.run A107_1 [.lp A107_1, .bk 0, .sq A107_22]) s := by
  intro k
  induction k with
  | zero => intro x_52 x_53 s _ h; exact nomatch (h : (none : Option _) = some r)
  | succ k ih =>
    intro x_52 x_53 s hs h
    rw [s_l7Depths_l3] at h
    obtain ⟨h1, h2, h3, h4⟩ := hs
    refine .seq (.seq (rg (gm h4 fun h11 => g1 1 (.ref (.bx 1) 0 [0] (ji x_1.1)) h1 fun h12 => ?_)))
    refine g1 12 (ji x_1.1) h12 fun h13 => ?_
    obtain ⟨q_104, E_q_104, h⟩ := bind_some h
    refine gv (ji q_104) (ev_shl rfl h13 E_q_104) fun h14 => ?_
    refine g2 11 14 (jb (decide (x_53 < q_104))) h11 h14 fun h15 => ?_
    refine gq (.nsq (run_cond (t := decide (x_53 < q_104)) h15 h (fun h => ?_) (fun h => ?_)))
    · refine .skip (.nsq (.seq (.block (.seq (rg (g1 1 (.ref (.bx 1) 0 [0] (ji x_1.1)) h1 fun h18 => ?_))))))
      refine g1 18 (ji x_1.1) h18 fun h19 => ?_
      refine gm h4 fun h20 => ?_
      obtain ⟨r_105, E_r_105, h⟩ := bind_some h
      refine g_call (m := 0) (al := false) (r := (Enc.enc (r_105 : (List Int)))) [Enc.enc (x_1.1 : Int), Enc.enc (x_53 : Int)] (ta_cons (v := (ji x_1.1)) h19 rfl rfl (ta_cons (v := (ji x_53)) h20 rfl rfl ta_nil)) (H.c87 _ _ _ E_r_105) H.g87 rfl rfl rfl rfl ?_
      refine gm (rfl : (_ : V) = (eL r_105)) fun h5 => ?_
      refine gq (.nsq (.seq (rg (g1 1 (.agg [(ji x_1.1), (Enc.enc (x_1.2 : List (Int × Int)))]) h1 fun h22 => ?_))))
      refine gm h5 fun h23 => ?_
      obtain ⟨r_106, E_r_106, h⟩ := bind_some h
      refine g_call (m := 0) (al := true) (r := (Enc.enc (r_106 : (List (List Int))))) [Enc.enc (x_1 : (Int × (List (Int × Int)))), Enc.enc (r_105 : (List Int))] (ta_cons (v := (.agg [(ji x_1.1), (Enc.enc (x_1.2 : List (Int × Int)))])) h22 rfl (Enc.erase_enc (x_1 : (Int × (List (Int × Int))))) (ta_cons (v := (eL r_105)) h23 rfl (Enc.erase_enc (r_105 : (List Int))) ta_nil)) (H.c148 _ _ _ E_r_106) H.g148 (hal_of (ht_cons (v := (.agg [(ji x_1.1), (Enc.enc (x_1.2 : List (Int × Int)))])) h22 rfl rfl (ht_cons (v := (eL r_105)) h23 rfl rfl ht_nil))) rfl rfl rfl ?_
      refine gm (rfl : (_ : V) = (Enc.enc (r_106 : List (List Int)))) fun h6 => ?_
      refine gq (.nsq (.seq (rg (g0 (ji 0) fun h7 => gq (.nsq (.seq (.seq (rg (g0 (ji 0) fun h8 => gq (.nsq (.block (.loop ?_))))))))))))
      exact t_f107_l2 H x_1 x_52 x_53 r_105 r_106 (s_l7Depths_l3 F x_1 k) ih F 0 0 _ ⟨h1, h2, h3, h4, h5, h6, h7, h8⟩ h
    refine .exit (.esq (.elp (.ebk (.nsq (.seq (rg (gm h3 fun h74 => gm h74 fun h2 => g_end ?_)))))))
    refine e_home (r := 3) (x := 2) (v := _) h2 rfl (fun s_13 hg_13 => ?_)
    refine ez [(2, (oI 2 [] (.of x_52)))] (hg_13 2 _ _ h2 (map_encO (r := 3) (p := []) rfl rfl)) ?_
    rintro s h2
    refine .nsq (.ret ?_)
    have hr := Option.some.inj h
    subst hr
    exact rrA (res_tmp h2) (fin_retF (fin_own (o := .of x_52)) (mine_own rfl))
def s_l7Depths (F : Nat) (x_1 : (Int × (List (Int × Int)))) : Option (List Int) :=
  s_l7Depths_l3 F x_1 F [0] 1
theorem t107 (H : H107 D σ F) (x_1 : (Int × (List (Int × Int)))) (s : Nat → V) (hs : Facts [(0, (.agg [(ji x_1.1), (Enc.enc (x_1.2 : List (Int × Int)))]))] s) (h : s_l7Depths F x_1 = some r) : Run D σ (R107 r) (.run A107 []) s := by
  unfold s_l7Depths at h
  have h0 := hs
  refine .seq (run_reg ?_)
  refine e_clr ?_
  refine ez [(0, _), (1, _)] ⟨(keep_clear (pk := [1]) h0 rfl (map_agg (maps_cons mi (maps_cons me maps_nil)))), (gone_clear (pk := [1]) (t := 1) rfl)⟩ ?_
  rintro s ⟨h0, h1⟩
  refine g_box (.agg [(ji x_1.1), (Enc.enc (x_1.2 : List (Int × Int)))]) (rd_of h0 rfl) h1 rfl ?_
  refine g0 (.sl .nl (Enc.shp Int) 0 []) fun h2 => ?_
  refine gq (.nsq (.seq (run_reg ?_)))
  refine e_clr ?_
  refine ez [(1, _), (2, _), (10, _)] ⟨(keep_clear (pk := [10]) rfl rfl (map_bx rfl (map_agg (maps_cons mi (maps_cons me maps_nil))))), (keep_clear (pk := [10]) h2 rfl rfl), (gone_clear (pk := [10]) (t := 10) rfl)⟩ ?_
  rintro s ⟨h1, h2, h10⟩
  refine g_litL [] [Enc.enc (0 : Int)] trivial rfl rfl h10 ?_
  refine gm (rfl : (_ : V) = (oI 10 [] (.of [0]))) fun h3 => ?_
  refine g_end ?_
  refine e_home (r := 10) (x := 3) (v := _) h3 rfl (fun s_3 hg_3 => ?_)
  refine ez [(1, (.ref (.bx 1) 0 [] (.agg [(ji x_1.1), (Enc.enc (x_1.2 : List (Int × Int)))]))), (2, (.sl .nl (Enc.shp Int) 0 [])), (3, (oI 3 [] (.of [0])))] ⟨(hg_3 1 _ _ h1 (map_bx rfl (map_agg (maps_cons mi (maps_cons me maps_nil))))), (hg_3 2 _ (.sl .nl (Enc.shp Int) 0 []) h2 rfl), (hg_3 3 _ _ h3 (map_encO (r := 10) (p := []) rfl rfl))⟩ ?_
  rintro s ⟨h1, h2, h3⟩
  refine .nsq (.seq (.seq (rg (g0 (ji 1) fun h4 => gq (.nsq (.block (.loop ?_)))))))
  exact t_f107_l3 H x_1 F [0] 1 _ ⟨h1, h2, h3, h4⟩ h
end
def e107 (F : Nat) : Ent := ent 107 (fun (x : ((Int × (List (Int × Int))) × Unit)) => s_l7Depths F x.1) (fun (r : (List Int)) => (Enc.enc (r : (List Int)))) 0 false []
theorem p107 {F : Nat} {x0 : (Int × (List (Int × Int)))} {r : (List Int)} (h : s_l7Depths F x0 = some r) : (e107 F).den [Enc.enc x0] = some (Enc.enc (r : (List Int))) := ent_put (x0, ()) h
theorem o107 {D : Den} {σ : Sig} {F : Nat} (hF : Fits2 Try.prog D σ) (H : H107 D σ F) : (e107 F).Ok Try.prog := by
  refine ok_of (f := 107) (show unk 107 = 107 from rfl) (fun args r h => ?_) ⟨Try.f107, Try.func107, rfl, rfl⟩
  obtain ⟨⟨x0, _⟩, y, rfl, hy, rfl⟩ := da_open h
  exact contract_run hF (by kernel_rfl) Try.func107 rfl c107 (show 1 ≤ Try.f107.ntmps by decide) (t107 H x0 _ rfl hy)
/- loop.example/g01109/spec.l2All -/
def A86_1 : AC := (.seq (.reg [] [((jv 3 (.fld (.t 1) 0 0))), ((jv 4 (.load .s (.t 3)))), ((jv 5 (.fld (.t 1) 0 0))), ((jv 6 (.load .s (.t 5)))), ((jv 7 (.bin .shl (jn 1) (.t 6)))), ((jv 8 (.bin .sub (.t 7) (jn 1)))), (.mk (some 9) none false (.call (.k (.fn 87 [] [])) [(.t 4), (.t 8)])), (jm 2 9)] []) .ret)
def A86 : AC := (.seq (.reg [.clr [1]] [(.mk (some 1) none false (.box (.t 0))), ((jv 2 (.mov (.k (.sl .nl .s 0 [])))))] []) A86_1)
def an86 : List An := [{ id := 0, pre := [.clr [1]], ep := [], lin := [], sp := [] }]
theorem c86 : cC Try.prog Try.f86.ntmps an86 (Try.f86.body.getD .skip) = some A86 := by kernel_rfl
structure H86 (D : Den) (σ : Sig) (F : Nat) : Prop where
  c87 : ∀ (x0 : Int) (x1 : Int) r, s_l2Bits F x0 x1 = some r → D 87 [Enc.enc x0, Enc.enc x1] = some (Enc.enc (r : (List Int)))
  g87 : σ 87 = some (0, false)
abbrev R86 (r : (List Int)) : (Nat → V) → Prop := RR Try.prog [.tmp 2] 0 true (Enc.enc (r : (List Int)))
section
variable {D : Den} {σ : Sig} {F : Nat} {r : (List Int)}
def s_l2All (F : Nat) (x_1 : (Int × (List (Int × Int)))) : Option (List Int) :=
  (shlI .i64 1 x_1.1).bind fun q_2 =>
  (s_l2Bits F x_1.1 (w64 (q_2 - 1))).bind fun r_3 =>
  some r_3
theorem t86 (H : H86 D σ F) (x_1 : (Int × (List (Int × Int)))) (s : Nat → V) (hs : Facts [(0, (.agg [(ji x_1.1), (Enc.enc (x_1.2 : List (Int × Int)))]))] s) (h : s_l2All F x_1 = some r) : Run D σ (R86 r) (.run A86 []) s := by
  unfold s_l2All at h
  have h0 := hs
  refine .seq (run_reg ?_)
  refine e_clr ?_
  refine ez [(0, _), (1, _)] ⟨(keep_clear (pk := [1]) h0 rfl (map_agg (maps_cons mi (maps_cons me maps_nil)))), (gone_clear (pk := [1]) (t := 1) rfl)⟩ ?_
  rintro s ⟨h0, h1⟩
  refine g_box (.agg [(ji x_1.1), (Enc.enc (x_1.2 : List (Int × Int)))]) (rd_of h0 rfl) h1 rfl ?_
  refine g0 (.sl .nl (Enc.shp Int) 0 []) fun h2 => ?_
  refine gq (.nsq (.seq (rg (g1 1 (.ref (.bx 1) 0 [0] (ji x_1.1)) (rfl : (_ : V) = (.ref (.bx 1) 0 [] (.agg [(ji x_1.1), (Enc.enc (x_1.2 : List (Int × Int)))]))) fun h3 => ?_))))
  refine g1 3 (ji x_1.1) h3 fun h4 => ?_
  refine g1 1 (.ref (.bx 1) 0 [0] (ji x_1.1)) (rfl : (_ : V) = (.ref (.bx 1) 0 [] (.agg [(ji x_1.1), (Enc.enc (x_1.2 : List (Int × Int)))]))) fun h5 => ?_
  refine g1 5 (ji x_1.1) h5 fun h6 => ?_
  obtain ⟨q_2, E_q_2, h⟩ := bind_some h
  refine gv (ji q_2) (ev_shl rfl h6 E_q_2) fun h7 => ?_
  refine g1 7 (ji (w64 (q_2 - 1))) h7 fun h8 => ?_
  obtain ⟨r_3, E_r_3, h⟩ := bind_some h
  refine g_call (m := 0) (al := false) (r := (Enc.enc (r_3 : (List Int)))) [Enc.enc (x_1.1 : Int), Enc.enc (w64 (q_2 - 1) : Int)] (ta_cons (v := (ji x_1.1)) h4 rfl rfl (ta_cons (v := (ji (w64 (q_2 - 1)))) h8 rfl rfl ta_nil)) (H.c87 _ _ _ E_r_3) H.g87 rfl rfl rfl rfl ?_
  refine gm (rfl : (_ : V) = (eL r_3)) fun h2 => ?_
  refine gq (.nsq (.ret ?_))
  have hr := Option.some.inj h
  subst hr
  exact rrA (res_tmp h2) (fin_ret1 (fin_enc (x := (r_3 : (List Int)))))
end
def e86 (F : Nat) : Ent := ent 86 (fun (x : ((Int × (List (Int × Int))) × Unit)) => s_l2All F x.1) (fun (r : (List Int)) => (Enc.enc (r : (List Int)))) 0 true []
theorem p86 {F : Nat} {x0 : (Int × (List (Int × Int)))} {r : (List Int)} (h : s_l2All F x0 = some r) : (e86 F).den [Enc.enc x0] = some (Enc.enc (r : (List Int))) := ent_put (x0, ()) h
theorem o86 {D : Den} {σ : Sig} {F : Nat} (hF : Fits2 Try.prog D σ) (H : H86 D σ F) : (e86 F).Ok Try.prog := by
  refine ok_of (f := 86) (show unk 86 = 86 from rfl) (fun args r h => ?_) ⟨Try.f86, Try.func86, rfl, rfl⟩
  obtain ⟨⟨x0, _⟩, y, rfl, hy, rfl⟩ := da_open h
  exact contract_run hF (by kernel_rfl) Try.func86 rfl c86 (show 1 ≤ Try.f86.ntmps by decide) (t86 H x0 _ rfl hy)
/- loop.example/g01109/spec.l7Root -/
def A174_2 : AC := (.cond (.t 16) .skip (.exit 0))
def A174_4 : AC := (.cond (.t 36) (.reg [] [(jm 37 1), (jm 38 7), ((jv 39 (.idx (.t 37) (.t 38) 1))), ((jv 40 (.load .s (.t 39)))), (jm 5 40)] []) .skip)
def A174_5 : AC := (.reg [] [(jm 17 7), ((jv 18 (.bin .add (.t 17) (jn 1)))), (jm 7 18)] [])
def A174_3 : AC := (.seq (.block 1 (.seq (.reg [] [(jm 19 0), (jm 20 6), (jm 21 1), (jm 22 7), ((jv 23 (.idx (.t 21) (.t 22) 1))), ((jv 24 (.load .s (.t 23)))), ((jv 25 (.bin .shl (jn 1) (.t 24)))), ((jv 26 (.bin .sub (.t 20) (.t 25)))), ((jv 27 (.idx (.t 19) (.t 26) 1))), ((jv 28 (.load .s (.t 27)))), (jm 29 0), (jm 30 6), (jm 31 5), ((jv 32 (.bin .shl (jn 1) (.t 31)))), ((jv 33 (.bin .sub (.t 30) (.t 32)))), ((jv 34 (.idx (.t 29) (.t 33) 1))), ((jv 35 (.load .s (.t 34)))), ((jv 36 (.bin .lss (.t 28) (.t 35))))] []) A174_4)) A174_5)
def A174_1 : AC := (.seq (.seq (.reg [] [(jm 13 7), (jm 14 1), ((jv 15 (.len (.t 14)))), ((jv 16 (.bin .lss (.t 13) (.t 15))))] []) A174_2) A174_3)
def A174_6 : AC := (.seq (.reg [] [(jm 41 5), (jm 4 41)] []) .ret)
def A174_10 : AC := (.block 0 (.loop A174_1))
def A174_9 : AC := (.seq (.seq (.reg [] [((jv 7 (.mov (jn 0))))] []) A174_10) A174_6)
def A174_8 : AC := (.seq (.reg [] [(jm 11 1), (.mk (some 12) none false (.call (.k (.fn 162 [] [])) [(.t 11)])), (jm 6 12)] []) A174_9)
def A174_7 : AC := (.seq (.reg [] [(jm 8 1), ((jv 9 (.idx (.t 8) (jn 0) 1))), ((jv 10 (.load .s (.t 9)))), (jm 5 10)] []) A174_8)
def A174 : AC := (.seq (.reg [] [((jv 4 (.mov (jn 0))))] []) A174_7)
def an174 : List An := []
theorem c174 : cC Try.prog Try.f174.ntmps an174 (Try.f174.body.getD .skip) = some A174 := by kernel_rfl
structure H174 (D : Den) (σ : Sig) (F : Nat) : Prop where
  c162 : ∀ (x0 : (List Int)) r, s_l5Code F x0 = some r → D 162 [Enc.enc x0] = some (Enc.enc (r : Int))
  g162 : σ 162 = some (0, false)
abbrev R174 (r : Int) : (Nat → V) → Prop := RR Try.prog [.tmp 4] 0 false (Enc.enc (r : Int))
section
variable {D : Den} {σ : Sig} {F : Nat} {r : Int}
def s_l7Root_j1 (F : Nat) (x_1 : (List Int)) (x_2 : (List Int)) (r_4 : Int) (x_14 : Int) (c1 : Int → Int → Option Int) (x_29 : Int) : Option Int :=
  c1 x_29 (w64 (x_14 + 1))
theorem t_f174_j1 (H : H174 D σ F) (x_1 : (List Int)) (x_2 : (List Int)) (r_4 : Int) (x_14 : Int) (c1 : Int → Int → Option Int) (Hc1 : ∀ (x_13 : Int) (x_14 : Int) (s : Nat → V), Facts [(0, (eL x_1)), (1, (eL x_2)), (4, (ji 0)), (5, (ji x_13)), (6, (ji r_4)), (7, (ji x_14))] s → c1 x_13 x_14 = some r → Run D σ (R174 r) (.run A174_1 [.lp A174_1, .bk 0, .sq A174_6]) s) (x_29 : Int) (s : Nat → V) (hs : Facts [(0, (eL x_1)), (1, (eL x_2)), (4, (ji 0)), (5, (ji x_29)), (6, (ji r_4)), (7, (ji x_14))] s) (h : s_l7Root_j1 F x_1 x_2 r_4 x_14 c1 x_29 = some r) : Run D σ (R174 r) (.nrm [.bk 1, .sq A174_5, .lp A174_1, .bk 0, .sq A174_6]) s := by
  unfold s_l7Root_j1 at h
  obtain ⟨h0, h1, h4, h5, h6, h7⟩ := hs
  refine .nbk (.nsq (rg (gm h7 fun h17 => g1 17 (ji (w64 (x_14 + 1))) h17 fun h18 => ?_)))
  refine gm h18 fun h7 => gq (.nlp ?_)
  exact Hc1 x_29 (w64 (x_14 + 1)) _ ⟨h0, h1, h4, h5, h6, h7⟩ h
def s_l7Root_l1 (F : Nat) (x_1 : (List Int)) (x_2 : (List Int)) (r_4 : Int)  : Nat → Int → Int → Option Int
  | 0, _, _ => none
  | k + 1, x_13, x_14 =>
    bif decide (x_14 < (x_2.length : Int)) then
      (idx x_2 x_14).bind fun e_23 =>
      (shlI .i64 1 e_23).bind fun q_24 =>
      (idx x_1 (w64 (r_4 - q_24))).bind fun e_25 =>
      (shlI .i64 1 x_13).bind fun q_26 =>
      (idx x_1 (w64 (r_4 - q_26))).bind fun e_27 =>
      bif decide (e_25 < e_27) then
        (idx x_2 x_14).bind fun e_30 =>
        s_l7Root_j1 F x_1 x_2 r_4 x_14 (s_l7Root_l1 F x_1 x_2 r_4 k) e_30
      else
        s_l7Root_j1 F x_1 x_2 r_4 x_14 (s_l7Root_l1 F x_1 x_2 r_4 k) x_13
    else
      some x_13
theorem t_f174_l1 (H : H174 D σ F) (x_1 : (List Int)) (x_2 : (List Int)) (r_4 : Int)  : ∀ (k : Nat) (x_13 : Int) (x_14 : Int) (s : Nat → V), Facts [(0, (eL x_1)), (1, (eL x_2)), (4, (ji 0)), (5, (ji x_13)), (6, (ji r_4)), (7, (ji x_14))] s → s_l7Root_l1 F x_1 x_2 r_4 k x_13 x_14 = some r → Run D σ (R174 r) (.run A174_1 [.lp A174_1, .bk 0, .sq A174_6]) s := by
  intro k
  induction k with
  | zero => intro x_13 x_14 s _ h; exact nomatch (h : (none : Option _) = some r)
  | succ k ih =>
    intro x_13 x_14 s hs h
    rw [s_l7Root_l1] at h
    obtain ⟨h0, h1, h4, h5, h6, h7⟩ := hs
    refine .seq (.seq (rg (gm h7 fun h13 => gm h1 fun h14 => gv (ji (x_2.length : Int)) (ev_len (xs := x_2) h14) fun h15 => ?_)))
    refine g2 13 15 (jb (decide (x_14 < (x_2.length : Int)))) h13 h15 fun h16 => ?_
    refine gq (.nsq (run_cond (t := decide (x_14 < (x_2.length : Int))) h16 h (fun h => ?_) (fun h => ?_)))
    · refine .skip (.nsq (.seq (.block (.seq (rg (gm h0 fun h19 => gm h6 fun h20 => gm h1 fun h21 => gm h7 fun h22 => ?_))))))
      obtain ⟨e_23, E_e_23, h⟩ := bind_some h
      refine gv (.ref .sh 0 [] (ji e_23)) (ev_idx (t := .sh) (lo := 0) (xs := x_2) h21 h22 E_e_23 rfl rfl) fun h23 => ?_
      refine g1 23 (ji e_23) h23 fun h24 => ?_
      obtain ⟨q_24, E_q_24, h⟩ := bind_some h
      refine gv (ji q_24) (ev_shl rfl h24 E_q_24) fun h25 => ?_
      refine g2 20 25 (ji (w64 (r_4 - q_24))) h20 h25 fun h26 => ?_
      obtain ⟨e_25, E_e_25, h⟩ := bind_some h
      refine gv (.ref .sh 0 [] (ji e_25)) (ev_idx (t := .sh) (lo := 0) (xs := x_1) h19 h26 E_e_25 rfl rfl) fun h27 => ?_
      refine g1 27 (ji e_25) h27 fun h28 => ?_
      refine gm h0 fun h29 => gm h6 fun h30 => gm h5 fun h31 => ?_
      obtain ⟨q_26, E_q_26, h⟩ := bind_some h
      refine gv (ji q_26) (ev_shl rfl h31 E_q_26) fun h32 => ?_
      refine g2 30 32 (ji (w64 (r_4 - q_26))) h30 h32 fun h33 => ?_
      obtain ⟨e_27, E_e_27, h⟩ := bind_some h
      refine gv (.ref .sh 0 [] (ji e_27)) (ev_idx (t := .sh) (lo := 0) (xs := x_1) h29 h33 E_e_27 rfl rfl) fun h34 => ?_
      refine g1 34 (ji e_27) h34 fun h35 => ?_
      refine g2 28 35 (jb (decide (e_25 < e_27))) h28 h35 fun h36 => ?_
      refine gz [(0, _), (1, _), (4, _), (5, _), (6, _), (7, _), (36, _)] ⟨h0, h1, h4, h5, h6, h7, h36⟩ ?_
      rintro s ⟨h0, h1, h4, h5, h6, h7, h36⟩
      refine .nsq (run_cond (t := decide (e_25 < e_27)) h36 h (fun h => ?_) (fun h => ?_))
      · refine rg (gm h1 fun h37 => gm h7 fun h38 => ?_)
        obtain ⟨e_30, E_e_30, h⟩ := bind_some h
        refine gv (.ref .sh 0 [] (ji e_30)) (ev_idx (t := .sh) (lo := 0) (xs := x_2) h37 h38 E_e_30 rfl rfl) fun h39 => ?_
        refine g1 39 (ji e_30) h39 fun h40 => ?_
        refine gm h40 fun h5 => gq ?_
        exact t_f174_j1 H x_1 x_2 r_4 x_14 (s_l7Root_l1 F x_1 x_2 r_4 k) ih e_30 _ ⟨h0, h1, h4, h5, h6, h7⟩ h
      refine .skip ?_
      exact t_f174_j1 H x_1 x_2 r_4 x_14 (s_l7Root_l1 F x_1 x_2 r_4 k) ih x_13 _ ⟨h0, h1, h4, h5, h6, h7⟩ h
    refine .exit (.esq (.elp (.ebk (.nsq (.seq (rg (gm h5 fun h41 => gm h41 fun h4 => gq (.nsq (.ret ?_)))))))))
    have hr := Option.some.inj h
    subst hr
    exact rrA (res_tmp h4) rfl
def s_l7Root (F : Nat) (x_1 : (List Int)) (x_2 : (List Int)) : Option Int :=
  (idx x_2 0).bind fun e_3 =>
  (s_l5Code F x_2).bind fun r_4 =>
  s_l7Root_l1 F x_1 x_2 r_4 F e_3 0
theorem t174 (H : H174 D σ F) (x_1 : (List Int)) (x_2 : (List Int)) (s : Nat → V) (hs : Facts [(0, (eL x_1)), (1, (eL x_2))] s) (h : s_l7Root F x_1 x_2 = some r) : Run D σ (R174 r) (.run A174 []) s := by
  unfold s_l7Root at h
  obtain ⟨h0, h1⟩ := hs
  refine .seq (rg (g0 (ji 0) fun h4 => gq (.nsq (.seq (rg (gm h1 fun h8 => ?_))))))
  obtain ⟨e_3, E_e_3, h⟩ := bind_some h
  refine gv (.ref .sh 0 [] (ji e_3)) (ev_idx (t := .sh) (lo := 0) (xs := x_2) h8 rfl E_e_3 rfl rfl) fun h9 => ?_
  refine g1 9 (ji e_3) h9 fun h10 => ?_
  refine gm h10 fun h5 => gq (.nsq (.seq (rg (gm h1 fun h11 => ?_))))
  obtain ⟨r_4, E_r_4, h⟩ := bind_some h
  refine g_call (m := 0) (al := false) (r := (Enc.enc (r_4 : Int))) [Enc.enc (x_2 : (List Int))] (ta_cons (v := (eL x_2)) h11 rfl (Enc.erase_enc (x_2 : (List Int))) ta_nil) (H.c162 _ _ E_r_4) H.g162 rfl rfl rfl rfl ?_
  refine gm (rfl : (_ : V) = (ji r_4)) fun h6 => ?_
  refine gq (.nsq (.seq (.seq (rg (g0 (ji 0) fun h7 => gq (.nsq (.block (.loop ?_))))))))
  exact t_f174_l1 H x_1 x_2 r_4 F e_3 0 _ ⟨h0, h1, h4, h5, h6, h7⟩ h
end
def e174 (F : Nat) : Ent := ent 174 (fun (x : ((List Int) × (List Int) × Unit)) => s_l7Root F x.1 x.2.1) (fun (r : Int) => (Enc.enc (r : Int))) 0 false []
theorem p174 {F : Nat} {x0 : (List Int)} {x1 : (List Int)} {r : Int} (h : s_l7Root F x0 x1 = some r) : (e174 F).den [Enc.enc x0, Enc.enc x1] = some (Enc.enc (r : Int)) := ent_put (x0, x1, ()) h
theorem o174 {D : Den} {σ : Sig} {F : Nat} (hF : Fits2 Try.prog D σ) (H : H174 D σ F) : (e174 F).Ok Try.prog := by
  refine ok_of (f := 174) (show unk 174 = 174 from rfl) (fun args r h => ?_) ⟨Try.f174, Try.func174, rfl, rfl⟩
  obtain ⟨⟨x0, x1, _⟩, y, rfl, hy, rfl⟩ := da_open h
  exact contract_run hF (by kernel_rfl) Try.func174 rfl c174 (show 2 ≤ Try.f174.ntmps by decide) (t174 H x0 x1 _ ⟨rfl, rfl⟩ hy)
/- loop.example/g01109/spec.l1Own -/
def A97o_1 : AC := (.seq (.reg [.clr [3, 5]] [(.mk (some 3) none false (.lit (.int .i64 (.ofNat 0)) 0 [])), (jm 4 0), (.mk (some 5) none false (.app .s (.t 3) (.t 4))), (jm 2 5)] [.home 5 2]) .ret)
def A97o : AC := (.seq (.reg [] [((jv 2 (.mov (.k (.sl .nl .s 0 [])))))] []) A97o_1)
def an97o : List An := [{ id := 1, pre := [.clr [3, 5]], ep := [.home 5 2], lin := [], sp := [] }]
theorem c97o : cC Try.prog Try.f97.ntmps an97o (Try.f97.body.getD .skip) = some A97o := by kernel_rfl
structure H97o (D : Den) (σ : Sig) (F : Nat) : Prop where
  mk ::
abbrev R97o (r : (NL Int)) : (Nat → V) → Prop := RR Try.prog [.tmp 2] 1 false (encO .sh (r : NL Int))
section
variable {D : Den} {σ : Sig} {F : Nat} {r : (NL Int)}
def s_l1Own_o (F : Nat) (x_1 : (List Int)) : Option (NL Int) :=
  (appL [] x_1).bind fun ap_2 =>
  some (.of ap_2)
theorem t97o (H : H97o D σ F) (x_1 : (List Int)) (s : Nat → V) (hs : Facts [(0, (eL x_1))] s) (h : s_l1Own_o F x_1 = some r) : Run D σ (R97o r) (.run A97o []) s := by
  unfold s_l1Own_o at h
  have h0 := hs
  refine .seq (rg (g0 (.sl .nl (Enc.shp Int) 0 []) fun h2 => ?_))
  refine gq (.nsq (.seq (run_reg ?_)))
  refine e_clr ?_
  refine ez [(0, _), (2, _), (3, _), (5, _)] ⟨(keep_clear (pk := [3, 5]) h0 rfl me), (keep_clear (pk := [3, 5]) h2 rfl rfl), (gone_clear (pk := [3, 5]) (t := 3) rfl), (gone_clear (pk := [3, 5]) (t := 5) rfl)⟩ ?_
  rintro s ⟨h0, h2, h3, h5⟩
  refine g_litL [] [] trivial rfl rfl h3 ?_
  refine gm h0 fun h4 => ?_
  obtain ⟨ap_2, E_ap_2, h⟩ := bind_some h
  refine g_app (q := 3) (p := []) (o := (.of ([] : List Int))) (ys := (x_1 : List Int)) (t2 := .sh) (lo2 := 0) rfl h4 rfl h5 (appN_L (o := (.of ([] : List Int))) E_ap_2 trivial) (fun s_2 ha_2 => ?_)
  refine gm (rfl : (_ : V) = (oI 5 [] (.of ap_2))) fun h2 => ?_
  refine g_end ?_
  refine e_home (r := 5) (x := 2) (v := _) h2 rfl (fun s_3 hg_3 => ?_)
  refine ez [(2, (oI 2 [] (.of ap_2)))] (hg_3 2 _ _ h2 (map_encO (r := 5) (p := []) rfl rfl)) ?_
  rintro s h2
  refine .nsq (.ret ?_)
  have hr := Option.some.inj h
  subst hr
  exact rrA (res_tmp h2) (fin_retO (finO_own (o := ((.of ap_2) : NL Int))) rfl (mine_own rfl))
end
def e97o (F : Nat) : Ent := ent 1000000097 (fun (x : ((List Int) × Unit)) => s_l1Own_o F x.1) (fun (r : (NL Int)) => (encO .sh (r : NL Int))) 1 false []
theorem p97o {F : Nat} {x0 : (List Int)} {r : (NL Int)} (h : s_l1Own_o F x0 = some r) : (e97o F).den [Enc.enc x0] = some (encO .sh (r : NL Int)) := ent_put (x0, ()) h
theorem o97o {D : Den} {σ : Sig} {F : Nat} (hF : Fits2 Try.prog D σ) (H : H97o D σ F) : (e97o F).Ok Try.prog := by
  refine ok_of (f := 97) (show unk 1000000097 = 97 from rfl) (fun args r h => ?_) ⟨Try.f97, Try.func97, rfl, rfl⟩
  obtain ⟨⟨x0, _⟩, y, rfl, hy, rfl⟩ := da_open h
  exact contract_run hF (by kernel_rfl) Try.func97 rfl c97o (show 1 ≤ Try.f97.ntmps by decide) (t97o H x0 _ rfl hy)
/- loop.example/g01109/spec.l2Without -/
def A109_2 : AC := (.cond (.t 11) .skip (.exit 0))
def A109_4 : AC := (.cond (.t 19) (.reg [.clr [25, 26]] [(jm 20 5), (jm 21 0), (jm 22 6), ((jv 23 (.idx (.t 21) (.t 22) 1))), ((jv 24 (.load .s (.t 23)))), (.mk (some 25) none false (.lit (.int .i64 (.ofNat 0)) 1 [(0, 0, (.t 24))])), (.mk (some 26) none false (.app .s (.t 20) (.t 25))), (jm 5 26)] [.home 26 5]) .skip)
def A109_5 : AC := (.reg [] [(jm 12 6), ((jv 13 (.bin .add (.t 12) (jn 1)))), (jm 6 13)] [])
def A109_3 : AC := (.seq (.block 1 (.seq (.reg [] [(jm 14 0), (jm 15 6), ((jv 16 (.idx (.t 14) (.t 15) 1))), ((jv 17 (.load .s (.t 16)))), (jm 18 1), ((jv 19 (.bin .neq (.t 17) (.t 18))))] []) A109_4)) A109_5)
def A109_1 : AC := (.seq (.seq (.reg [] [(jm 8 6), (jm 9 0), ((jv 10 (.len (.t 9)))), ((jv 11 (.bin .lss (.t 8) (.t 10))))] []) A109_2) A109_3)
def A109_6 : AC := (.seq (.reg [] [(jm 27 5), (jm 4 27)] [.home 5 4]) .ret)
def A109_9 : AC := (.block 0 (.loop A109_1))
def A109_8 : AC := (.seq (.seq (.reg [] [((jv 6 (.mov (jn 0))))] []) A109_9) A109_6)
def A109_7 : AC := (.seq (.reg [.clr [7]] [(.mk (some 7) none false (.lit (.int .i64 (.ofNat 0)) 0 [])), (jm 5 7)] [.home 7 5]) A109_8)
def A109 : AC := (.seq (.reg [] [((jv 4 (.mov (.k (.sl .nl .s 0 [])))))] []) A109_7)
def an109 : List An := [{ id := 1, pre := [.clr [7]], ep := [.home 7 5], lin := [], sp := [] }, { id := 6, pre := [.clr [25, 26]], ep := [.home 26 5], lin := [], sp := [] }, { id := 7, pre := [], ep := [.home 5 4], lin := [], sp := [] }]
theorem c109 : cC Try.prog Try.f109.ntmps an109 (Try.f109.body.getD .skip) = some A109 := by kernel_rfl
structure H109 (D : Den) (σ : Sig) (F : Nat) : Prop where
  mk ::
abbrev R109 (r : (List Int)) : (Nat → V) → Prop := RR Try.prog [.tmp 4] 0 false (Enc.enc (r : (List Int)))
section
variable {D : Den} {σ : Sig} {F : Nat} {r : (List Int)}
def s_l2Without_j1 (F : Nat) (x_1 : (List Int)) (x_2 : Int) (x_10 : Int) (c1 : (List Int) → Int → Option (List Int)) (x_20 : (List Int)) : Option (List Int) :=
  c1 x_20 (w64 (x_10 + 1))
theorem t_f109_j1 (H : H109 D σ F) (x_1 : (List Int)) (x_2 : Int) (x_10 : Int) (c1 : (List Int) → Int → Option (List Int)) (Hc1 : ∀ (x_9 : (List Int)) (x_10 : Int) (s : Nat → V), Facts [(0, (eL x_1)), (1, (ji x_2)), (4, (.sl .nl (Enc.shp Int) 0 [])), (5, (oI 5 [] (.of x_9))), (6, (ji x_10))] s → c1 x_9 x_10 = some r → Run D σ (R109 r) (.run A109_1 [.lp A109_1, .bk 0, .sq A109_6]) s) (x_20 : (List Int)) (s : Nat → V) (hs : Facts [(0, (eL x_1)), (1, (ji x_2)), (4, (.sl .nl (Enc.shp Int) 0 [])), (5, (oI 5 [] (.of x_20))), (6, (ji x_10))] s) (h : s_l2Without_j1 F x_1 x_2 x_10 c1 x_20 = some r) : Run D σ (R109 r) (.nrm [.bk 1, .sq A109_5, .lp A109_1, .bk 0, .sq A109_6]) s := by
  unfold s_l2Without_j1 at h
  obtain ⟨h0, h1, h4, h5, h6⟩ := hs
  refine .nbk (.nsq (rg (gm h6 fun h12 => g1 12 (ji (w64 (x_10 + 1))) h12 fun h13 => ?_)))
  refine gm h13 fun h6 => gq (.nlp ?_)
  exact Hc1 x_20 (w64 (x_10 + 1)) _ ⟨h0, h1, h4, h5, h6⟩ h
def s_l2Without_l1 (F : Nat) (x_1 : (List Int)) (x_2 : Int)  : Nat → (List Int) → Int → Option (List Int)
  | 0, _, _ => none
  | k + 1, x_9, x_10 =>
    bif decide (x_10 < (x_1.length : Int)) then
      (idx x_1 x_10).bind fun e_17 =>
      bif (e_17 != x_2) then
        (idx x_1 x_10).bind fun e_21 =>
        (appL x_9 [e_21]).bind fun ap_22 =>
        s_l2Without_j1 F x_1 x_2 x_10 (s_l2Without_l1 F x_1 x_2 k) ap_22
      else
        s_l2Without_j1 F x_1 x_2 x_10 (s_l2Without_l1 F x_1 x_2 k) x_9
    else
      some x_9
theorem t_f109_l1 (H : H109 D σ F) (x_1 : (List Int)) (x_2 : Int)  : ∀ (k : Nat) (x_9 : (List Int)) (x_10 : Int) (s : Nat → V), Facts [(0, (eL x_1)), (1, (ji x_2)), (4, (.sl .nl (Enc.shp Int) 0 [])), (5, (oI 5 [] (.of x_9))), (6, (ji x_10))] s → s_l2Without_l1 F x_1 x_2 k x_9 x_10 = some r → Run D σ (R109 r) (.run A109_1 [.lp A109_1, .bk 0, .sq A109_6]) s := by
  intro k
  induction k with
  | zero => intro x_9 x_10 s _ h; exact nomatch (h : (none : Option _) = some r)
  | succ k ih =>
    intro x_9 x_10 s hs h
    rw [s_l2Without_l1] at h
    obtain ⟨h0, h1, h4, h5, h6⟩ := hs
    refine .seq (.seq (rg (gm h6 fun h8 => gm h0 fun h9 => gv (ji (x_1.length : Int)) (ev_len (xs := x_1) h9) fun h10 => ?_)))
    refine g2 8 10 (jb (decide (x_10 < (x_1.length : Int)))) h8 h10 fun h11 => ?_
    refine gq (.nsq (run_cond (t := decide (x_10 < (x_1.length : Int))) h11 h (fun h => ?_) (fun h => ?_)))
    · refine .skip (.nsq (.seq (.block (.seq (rg (gm h0 fun h14 => gm h6 fun h15 => ?_))))))
      obtain ⟨e_17, E_e_17, h⟩ := bind_some h
      refine gv (.ref .sh 0 [] (ji e_17)) (ev_idx (t := .sh) (lo := 0) (xs := x_1) h14 h15 E_e_17 rfl rfl) fun h16 => ?_
      refine g1 16 (ji e_17) h16 fun h17 => ?_
      refine gm h1 fun h18 => g2 17 18 (jb (e_17 != x_2)) h17 h18 fun h19 => ?_
      refine gq (.nsq (run_cond (t := (e_17 != x_2)) h19 h (fun h => ?_) (fun h => ?_)))
      · refine run_reg ?_
        refine e_clr ?_
        refine ez [(0, _), (1, _), (4, _), (5, _), (6, _), (25, _), (26, _)] ⟨(keep_clear (pk := [25, 26]) h0 rfl me), (keep_clear (pk := [25, 26]) h1 rfl mi), (keep_clear (pk := [25, 26]) h4 rfl rfl), (keep_clear (pk := [25, 26]) h5 rfl (map_encO (r := 5) (p := []) rfl rfl)), (keep_clear (pk := [25, 26]) h6 rfl mi), (gone_clear (pk := [25, 26]) (t := 25) rfl), (gone_clear (pk := [25, 26]) (t := 26) rfl)⟩ ?_
        rintro s ⟨h0, h1, h4, h5, h6, h25, h26⟩
        refine gm h5 fun h20 => gm h0 fun h21 => gm h6 fun h22 => ?_
        obtain ⟨e_21, E_e_21, h⟩ := bind_some h
        refine gv (.ref .sh 0 [] (ji e_21)) (ev_idx (t := .sh) (lo := 0) (xs := x_1) h21 h22 E_e_21 rfl rfl) fun h23 => ?_
        refine g1 23 (ji e_21) h23 fun h24 => ?_
        refine g_litL [(24, (ji e_21))] [Enc.enc (e_21 : Int)] h24 rfl rfl h25 ?_
        obtain ⟨ap_22, E_ap_22, h⟩ := bind_some h
        refine g_app (q := 5) (p := []) (o := (.of (x_9 : List Int))) (ys := ([e_21] : List Int)) (t2 := (.at 25 [])) (lo2 := 0) h20 rfl rfl h26 (appN_L (o := (.of (x_9 : List Int))) E_ap_22 trivial) (fun s_19 ha_19 => ?_)
        refine gm (rfl : (_ : V) = (oI 26 [] (.of ap_22))) fun h5 => ?_
        refine g_end ?_
        refine e_home (r := 26) (x := 5) (v := _) h5 rfl (fun s_20 hg_20 => ?_)
        refine ez [(0, (eL x_1)), (1, (ji x_2)), (4, (.sl .nl (Enc.shp Int) 0 [])), (5, (oI 5 [] (.of ap_22))), (6, (ji x_10))] ⟨(hg_20 0 _ _ (show s_19 0 = (eL x_1) from keep_app ha_19 h0 me) me), (hg_20 1 _ _ (show s_19 1 = (ji x_2) from keep_app ha_19 h1 mi) mi), (hg_20 4 _ (.sl .nl (Enc.shp Int) 0 []) (show s_19 4 = (.sl .nl (Enc.shp Int) 0 []) from keep_app ha_19 h4 rfl) rfl), (hg_20 5 _ _ h5 (map_encO (r := 26) (p := []) rfl rfl)), (hg_20 6 _ _ (show s_19 6 = (ji x_10) from keep_app ha_19 h6 mi) mi)⟩ ?_
        rintro s ⟨h0, h1, h4, h5, h6⟩
        exact t_f109_j1 H x_1 x_2 x_10 (s_l2Without_l1 F x_1 x_2 k) ih ap_22 _ ⟨h0, h1, h4, h5, h6⟩ h
      refine .skip ?_
      exact t_f109_j1 H x_1 x_2 x_10 (s_l2Without_l1 F x_1 x_2 k) ih x_9 _ ⟨h0, h1, h4, h5, h6⟩ h
    refine .exit (.esq (.elp (.ebk (.nsq (.seq (rg (gm h5 fun h27 => gm h27 fun h4 => g_end ?_)))))))
    refine e_home (r := 5) (x := 4) (v := _) h4 rfl (fun s_21 hg_21 => ?_)
    refine ez [(4, (oI 4 [] (.of x_9)))] (hg_21 4 _ _ h4 (map_encO (r := 5) (p := []) rfl rfl)) ?_
    rintro s h4
    refine .nsq (.ret ?_)
    have hr := Option.some.inj h
    subst hr
    exact rrA (res_tmp h4) (fin_retF (fin_own (o := .of x_9)) (mine_own rfl))
def s_l2Without (F : Nat) (x_1 : (List Int)) (x_2 : Int) : Option (List Int) :=
  s_l2Without_l1 F x_1 x_2 F [] 0
theorem t109 (H : H109 D σ F) (x_1 : (List Int)) (x_2 : Int) (s : Nat → V) (hs : Facts [(0, (eL x_1)), (1, (ji x_2))] s) (h : s_l2Without F x_1 x_2 = some r) : Run D σ (R109 r) (.run A109 []) s := by
  unfold s_l2Without at h
  obtain ⟨h0, h1⟩ := hs
  refine .seq (rg (g0 (.sl .nl (Enc.shp Int) 0 []) fun h4 => ?_))
  refine gq (.nsq (.seq (run_reg ?_)))
  refine e_clr ?_
  refine ez [(0, _), (1, _), (4, _), (7, _)] ⟨(keep_clear (pk := [7]) h0 rfl me), (keep_clear (pk := [7]) h1 rfl mi), (keep_clear (pk := [7]) h4 rfl rfl), (gone_clear (pk := [7]) (t := 7) rfl)⟩ ?_
  rintro s ⟨h0, h1, h4, h7⟩
  refine g_litL [] [] trivial rfl rfl h7 ?_
  refine gm (rfl : (_ : V) = (oI 7 [] (.of []))) fun h5 => ?_
  refine g_end ?_
  refine e_home (r := 7) (x := 5) (v := _) h5 rfl (fun s_2 hg_2 => ?_)
  refine ez [(0, (eL x_1)), (1, (ji x_2)), (4, (.sl .nl (Enc.shp Int) 0 [])), (5, (oI 5 [] (.of [])))] ⟨(hg_2 0 _ _ h0 me), (hg_2 1 _ _ h1 mi), (hg_2 4 _ (.sl .nl (Enc.shp Int) 0 []) h4 rfl), (hg_2 5 _ _ h5 (map_encO (r := 7) (p := []) rfl rfl))⟩ ?_
  rintro s ⟨h0, h1, h4, h5⟩
  refine .nsq (.seq (.seq (rg (g0 (ji 0) fun h6 => gq (.nsq (.block (.loop ?_)))))))
  exact t_f109_l1 H x_1 x_2 F [] 0 _ ⟨h0, h1, h4, h5, h6⟩ h
end
def e109 (F : Nat) : Ent := ent 109 (fun (x : ((List Int) × Int × Unit)) => s_l2Without F x.1 x.2.1) (fun (r : (List Int)) => (Enc.enc (r : (List Int)))) 0 false []
theorem p109 {F : Nat} {x0 : (List Int)} {x1 : Int} {r : (List Int)} (h : s_l2Without F x0 x1 = some r) : (e109 F).den [Enc.enc x0, Enc.enc x1] = some (Enc.enc (r : (List Int))) := ent_put (x0, x1, ()) h
theorem o109 {D : Den} {σ : Sig} {F : Nat} (hF : Fits2 Try.prog D σ) (H : H109 D σ F) : (e109 F).Ok Try.prog := by
  refine ok_of (f := 109) (show unk 109 = 109 from rfl) (fun args r h => ?_) ⟨Try.f109, Try.func109, rfl, rfl⟩
  obtain ⟨⟨x0, x1, _⟩, y, rfl, hy, rfl⟩ := da_open h
  exact contract_run hF (by kernel_rfl) Try.func109 rfl c109 (show 2 ≤ Try.f109.ntmps by decide) (t109 H x0 x1 _ ⟨rfl, rfl⟩ hy)
/- loop.example/g01109/spec.l7Grow -/
def A140o_2 : AC := (.cond (.t 23) .skip (.exit 0))
def A140o_5 : AC := (.reg [.clr [46]] [((jv 36 (.load (.ag [.s, .p]) (.t 5)))), (jm 37 1), (jm 38 11), (jm 39 12), (jm 40 13), ((jv 41 (.idx (.t 39) (.t 40) 1))), ((jv 42 (.load .p (.t 41)))), (jm 43 14), (.mk (some 44) none false (.call (.k (.fn 109 [] [])) [(.t 42), (.t 43)])), (jm 45 14), (.mk (some 46) none false (.callO (.k (.fn 140 [] [])) [(.t 36), (.t 37), (.t 38), (.t 44), (.t 45)])), (jm 11 46)] [.home 46 11])
def A140o_4 : AC := (.seq (.reg [] [(jm 32 11), (jm 33 14), (jm 34 4), ((jv 35 (.idx (.t 32) (.t 33) 1))), (.mk none none false (.store .s (.t 35) (.t 34)))] []) A140o_5)
def A140o_6 : AC := (.reg [] [(jm 24 13), ((jv 25 (.bin .add (.t 24) (jn 1)))), (jm 13 25)] [])
def A140o_3 : AC := (.seq (.block 1 (.seq (.reg [] [(jm 26 1), (jm 27 12), (jm 28 13), ((jv 29 (.idx (.t 27) (.t 28) 1))), ((jv 30 (.load .p (.t 29)))), (.mk (some 31) none false (.call (.k (.fn 174 [] [])) [(.t 26), (.t 30)])), (jm 14 31)] []) A140o_4)) A140o_6)
def A140o_1 : AC := (.seq (.seq (.reg [] [(jm 20 13), (jm 21 12), ((jv 22 (.len (.t 21)))), ((jv 23 (.bin .lss (.t 20) (.t 22))))] []) A140o_2) A140o_3)
def A140o_7 : AC := (.seq (.reg [] [(jm 47 11), (jm 10 47)] [.home 11 10]) .ret)
def A140o_11 : AC := (.block 0 (.loop A140o_1))
def A140o_10 : AC := (.seq (.seq (.reg [] [((jv 13 (.mov (jn 0))))] []) A140o_11) A140o_7)
def A140o_9 : AC := (.seq (.reg [] [((jv 17 (.load (.ag [.s, .p]) (.t 5)))), (jm 18 3), (.mk (some 19) none false (.call (.k (.fn 148 [] [])) [(.t 17), (.t 18)])), (jm 12 19)] []) A140o_10)
def A140o_8 : AC := (.seq (.reg [.clr [16]] [(jm 15 2), (.mk (some 16) none false (.callO (.k (.fn 97 [] [])) [(.t 15)])), (jm 11 16)] [.home 16 11]) A140o_9)
def A140o : AC := (.seq (.reg [.clr [5]] [(.mk (some 5) none false (.box (.t 0))), ((jv 10 (.mov (.k (.sl .nl .s 0 [])))))] []) A140o_8)
def an140o : List An := [{ id := 0, pre := [.clr [5]], ep := [], lin := [], sp := [] }, { id := 1, pre := [.clr [16]], ep := [.home 16 11], lin := [], sp := [1001] }, { id := 8, pre := [.clr [46]], ep := [.home 46 11], lin := [], sp := [1010] }, { id := 9, pre := [], ep := [.home 11 10], lin := [], sp := [] }]
theorem c140o : cC Try.prog Try.f140.ntmps an140o (Try.f140.body.getD .skip) = some A140o := by kernel_rfl
structure H140o (D : Den) (σ : Sig) (F : Nat) (rc : (Int × (List (Int × Int))) → (List Int) → (List Int) → (List Int) → Int → Option (NL Int)) : Prop where
  c97o : ∀ (x0 : (List Int)) r, s_l1Own_o F x0 = some r → D 1000000097 [Enc.enc x0] = some (encO .sh (r : NL Int))
  g97o : σ 1000000097 = some (1, false)
  c148 : ∀ (x0 : (Int × (List (Int × Int)))) (x1 : (List Int)) r, s_l2Parts F x0 x1 = some r → D 148 [Enc.enc x0, Enc.enc x1] = some (Enc.enc (r : (List (List Int))))
  g148 : σ 148 = some (0, true)
  c174 : ∀ (x0 : (List Int)) (x1 : (List Int)) r, s_l7Root F x0 x1 = some r → D 174 [Enc.enc x0, Enc.enc x1] = some (Enc.enc (r : Int))
  g174 : σ 174 = some (0, false)
  c109 : ∀ (x0 : (List Int)) (x1 : Int) r, s_l2Without F x0 x1 = some r → D 109 [Enc.enc x0, Enc.enc x1] = some (Enc.enc (r : (List Int)))
  g109 : σ 109 = some (0, false)
  c140o : ∀ (x0 : (Int × (List (Int × Int)))) (x1 : (List Int)) (x2 : (List Int)) (x3 : (List Int)) (x4 : Int) r, rc x0 x1 x2 x3 x4 = some r → D 1000000140 [Enc.enc x0, Enc.enc x1, Enc.enc x2, Enc.enc x3, Enc.enc x4] = some (encO .sh (r : NL Int))
  g140o : σ 1000000140 = some (1, false)
abbrev R140o (r : (NL Int)) : (Nat → V) → Prop := RR Try.prog [.tmp 10] 1 false (encO .sh (r : NL Int))
section
variable {D : Den} {σ : Sig} {F : Nat} {rc : (Int × (List (Int × Int))) → (List Int) → (List Int) → (List Int) → Int → Option (NL Int)} {r : (NL Int)}
def s_l7Grow_o_l1 (F : Nat) (rc : (Int × (List (Int × Int))) → (List Int) → (List Int) → (List Int) → Int → Option (NL Int)) (x_2 : (List Int)) (x_5 : Int) (x_1 : (Int × (List (Int × Int)))) (r_7 : (List (List Int)))  : Nat → (NL Int) → Int → Option (NL Int)
  | 0, _, _ => none
  | k + 1, x_14, x_15 =>
    bif decide (x_15 < (r_7.length : Int)) then
      (idx r_7 x_15).bind fun e_22 =>
      (s_l7Root F x_2 e_22).bind fun r_23 =>
      (idx x_14.list r_23).bind fun e_24 =>
      (idx r_7 x_15).bind fun e_25 =>
      (s_l2Without F e_25 r_23).bind fun r_26 =>
      (rc x_1 x_2 ((NL.set x_14 r_23.toNat x_5).list) r_26 r_23).bind fun r_27 =>
      (s_l7Grow_o_l1 F rc x_2 x_5 x_1 r_7 k) r_27 (w64 (x_15 + 1))
    else
      some x_14
theorem t_f140o_l1 (H : H140o D σ F rc) (x_2 : (List Int)) (x_5 : Int) (x_1 : (Int × (List (Int × Int)))) (r_7 : (List (List Int)))  : ∀ (k : Nat) (x_14 : (NL Int)) (x_15 : Int) (s : Nat → V), Facts [(1, (eL x_2)), (4, (ji x_5)), (5, (.ref (.bx 5) 0 [] (.agg [(ji x_1.1), (Enc.enc (x_1.2 : List (Int × Int)))]))), (10, (.sl .nl (Enc.shp Int) 0 [])), (11, (oI 11 [] x_14)), (12, (Enc.enc (r_7 : List (List Int)))), (13, (ji x_15))] s → s_l7Grow_o_l1 F rc x_2 x_5 x_1 r_7 k x_14 x_15 = some r → Run D σ (R140o r) (.run A140o_1 [.lp A140o_1, .bk 0, .sq A140o_7]) s := by
  intro k
  induction k with
  | zero => intro x_14 x_15 s _ h; exact nomatch (h : (none : Option _) = some r)
  | succ k ih =>
    intro x_14 x_15 s hs h
    rw [s_l7Grow_o_l1] at h
    obtain ⟨h1, h4, h5, h10, h11, h12, h13⟩ := hs
    refine .seq (.seq (rg (gm h13 fun h20 => gm h12 fun h21 => gv (ji (r_7.length : Int)) (ev_len (xs := r_7) h21) fun h22 => ?_)))
    refine g2 20 22 (jb (decide (x_15 < (r_7.length : Int)))) h20 h22 fun h23 => ?_
    refine gq (.nsq (run_cond (t := decide (x_15 < (r_7.length : Int))) h23 h (fun h => ?_) (fun h => ?_)))
    · refine .skip (.nsq (.seq (.block (.seq (rg (gm h1 fun h26 => gm h12 fun h27 => gm h13 fun h28 => ?_))))))
      obtain ⟨e_22, E_e_22, h⟩ := bind_some h
      refine gv (.ref .sh 0 [] (eL e_22)) (ev_idx (t := .sh) (lo := 0) (xs := r_7) h27 h28 E_e_22 rfl rfl) fun h29 => ?_
      refine g1 29 (eL e_22) h29 fun h30 => ?_
      obtain ⟨r_23, E_r_23, h⟩ := bind_some h
      refine g_call (m := 0) (al := false) (r := (Enc.enc (r_23 : Int))) [Enc.enc (x_2 : (List Int)), Enc.enc (e_22 : (List Int))] (ta_cons (v := (eL x_2)) h26 rfl (Enc.erase_enc (x_2 : (List Int))) (ta_cons (v := (eL e_22)) h30 rfl (Enc.erase_enc (e_22 : (List Int))) ta_nil)) (H.c174 _ _ _ E_r_23) H.g174 rfl rfl rfl rfl ?_
      refine gm (rfl : (_ : V) = (ji r_23)) fun h14 => ?_
      refine gq (.nsq (.seq (rg (gv (oI 11 [] x_14) (ev_mov h11 ok_encO) fun h32 => ?_))))
      refine gm h14 fun h33 => gm h4 fun h34 => ?_
      obtain ⟨e_24, E_e_24, h⟩ := bind_some h
      refine gv (.ref (.at 11 []) r_23.toNat [] (ji e_24)) (ev_idxO (o := x_14) h32 h33 E_e_24 rfl) fun h35 => ?_
      refine g_store (ji x_5) (rd_of h35 rfl) (rd_of h34 rfl) (by refine ⟨by decide, by decide, rfl, rfl, rfl, ?_⟩; first | rfl | (simp [V.toks, V.tokss, Enc.toks_enc]; done) | simp [V.toks, V.tokss, Enc.toks_enc, tok_memP]) ?_
      refine gz [(1, (eL x_2)), (4, (ji x_5)), (5, (.ref (.bx 5) 0 [] (.agg [(ji x_1.1), (Enc.enc (x_1.2 : List (Int × Int)))]))), (10, (.sl .nl (Enc.shp Int) 0 [])), (11, _), (12, (Enc.enc (r_7 : List (List Int)))), (13, (ji x_15)), (14, (ji r_23))] ⟨(keep_mut h1 (Enc.mut_enc _ _ _ _ (x_2 : List Int))), (keep_mut h4 rfl), (keep_mut h5 (mut_ref_ne rfl rfl (mut_agg (muts_cons rfl (muts_cons (Enc.mut_enc _ _ _ _ (x_1.2 : List (Int × Int))) rfl))))), (keep_mut h10 rfl), (keep_mut h11 (mut_ownN (α := Int) (u := x_5) (i := r_23.toNat) (o := x_14))), (keep_mut h12 (Enc.mut_enc _ _ _ _ (r_7 : List (List Int)))), (keep_mut h13 rfl), (keep_mut h14 rfl)⟩ ?_
      rintro s ⟨h1, h4, h5, h10, h11, h12, h13, h14⟩
      refine .nsq (run_reg ?_)
      refine e_clr ?_
      refine ez [(1, _), (4, _), (5, _), (10, _), (11, _), (12, _), (13, _), (14, _), (46, _)] ⟨(keep_clear (pk := [46]) h1 rfl me), (keep_clear (pk := [46]) h4 rfl mi), (keep_clear (pk := [46]) h5 rfl (map_bx rfl (map_agg (maps_cons mi (maps_cons me maps_nil))))), (keep_clear (pk := [46]) h10 rfl rfl), (keep_clear (pk := [46]) h11 rfl (map_encO (r := 11) (p := []) rfl rfl)), (keep_clear (pk := [46]) h12 rfl me), (keep_clear (pk := [46]) h13 rfl mi), (keep_clear (pk := [46]) h14 rfl mi), (gone_clear (pk := [46]) (t := 46) rfl)⟩ ?_
      rintro s ⟨h1, h4, h5, h10, h11, h12, h13, h14, h46⟩
      refine g1 5 (.agg [(ji x_1.1), (Enc.enc (x_1.2 : List (Int × Int)))]) h5 fun h36 => ?_
      refine gm h1 fun h37 => gv (oI 11 [] (NL.set x_14 r_23.toNat x_5)) (ev_mov h11 ok_encO) fun h38 => ?_
      refine gm h12 fun h39 => gm h13 fun h40 => ?_
      obtain ⟨e_25, E_e_25, h⟩ := bind_some h
      refine gv (.ref .sh 0 [] (eL e_25)) (ev_idx (t := .sh) (lo := 0) (xs := r_7) h39 h40 E_e_25 rfl rfl) fun h41 => ?_
      refine g1 41 (eL e_25) h41 fun h42 => ?_
      refine gm h14 fun h43 => ?_
      obtain ⟨r_26, E_r_26, h⟩ := bind_some h
      refine g_call (m := 0) (al := false) (r := (Enc.enc (r_26 : (List Int)))) [Enc.enc (e_25 : (List Int)), Enc.enc (r_23 : Int)] (ta_cons (v := (eL e_25)) h42 rfl (Enc.erase_enc (e_25 : (List Int))) (ta_cons (v := (ji r_23)) h43 rfl rfl ta_nil)) (H.c109 _ _ _ E_r_26) H.g109 rfl rfl rfl rfl ?_
      refine gm h14 fun h45 => ?_
      obtain ⟨r_27, E_r_27, h⟩ := bind_some h
      refine g_callO (m := 1) (al := false) (r := (encO .sh (r_27 : NL Int))) (v := (oI 46 [] r_27)) (kk := 1000000140) [Enc.enc (x_1 : (Int × (List (Int × Int)))), Enc.enc (x_2 : (List Int)), Enc.enc ((NL.set x_14 r_23.toNat x_5).list : (List Int)), Enc.enc (r_26 : (List Int)), Enc.enc (r_23 : Int)] (ta_cons (v := (.agg [(ji x_1.1), (Enc.enc (x_1.2 : List (Int × Int)))])) h36 rfl (Enc.erase_enc (x_1 : (Int × (List (Int × Int))))) (ta_cons (v := (eL x_2)) h37 rfl (Enc.erase_enc (x_2 : (List Int))) (ta_cons (v := (oI 11 [] (NL.set x_14 r_23.toNat x_5))) h38 ok_encP (erase_encO (o := (NL.set x_14 r_23.toNat x_5))) (ta_cons (v := (eL r_26)) rfl rfl (Enc.erase_enc (r_26 : (List Int))) (ta_cons (v := (ji r_23)) h45 rfl rfl ta_nil))))) (H.c140o _ _ _ _ _ _ E_r_27) H.g140o rfl toks_encS tag_encO ok_encP h46 ?_
      refine gv (oI 46 [] r_27) (ev_mov rfl ok_encO) fun h11 => ?_
      refine g_end ?_
      refine e_home (r := 46) (x := 11) (v := _) h11 ok_encO (fun s_9 hg_9 => ?_)
      refine ez [(1, (eL x_2)), (4, (ji x_5)), (5, (.ref (.bx 5) 0 [] (.agg [(ji x_1.1), (Enc.enc (x_1.2 : List (Int × Int)))]))), (10, (.sl .nl (Enc.shp Int) 0 [])), (11, (oI 11 [] r_27)), (12, (Enc.enc (r_7 : List (List Int)))), (13, (ji x_15))] ⟨(hg_9 1 _ _ h1 me), (hg_9 4 _ _ h4 mi), (hg_9 5 _ _ h5 (map_bx rfl (map_agg (maps_cons mi (maps_cons me maps_nil))))), (hg_9 10 _ (.sl .nl (Enc.shp Int) 0 []) h10 rfl), (hg_9 11 _ _ h11 (map_encO (r := 46) (p := []) rfl rfl)), (hg_9 12 _ _ h12 me), (hg_9 13 _ _ h13 mi)⟩ ?_
      rintro s ⟨h1, h4, h5, h10, h11, h12, h13⟩
      refine .nbk (.nsq (rg (gm h13 fun h24 => g1 24 (ji (w64 (x_15 + 1))) h24 fun h25 => ?_)))
      refine gm h25 fun h13 => gq (.nlp ?_)
      exact ih r_27 (w64 (x_15 + 1)) _ ⟨h1, h4, h5, h10, h11, h12, h13⟩ h
    refine .exit (.esq (.elp (.ebk (.nsq (.seq (rg (gv (oI 11 [] x_14) (ev_mov h11 ok_encO) fun h47 => ?_)))))))
    refine gv (oI 11 [] x_14) (ev_mov h47 ok_encO) fun h10 => ?_
    refine g_end ?_
    refine e_home (r := 11) (x := 10) (v := _) h10 ok_encO (fun s_10 hg_10 => ?_)
    refine ez [(10, (oI 10 [] x_14))] (hg_10 10 _ _ h10 (map_encO (r := 11) (p := []) rfl rfl)) ?_
    rintro s h10
    refine .nsq (.ret ?_)
    have hr := Option.some.inj h
    subst hr
    exact rrA (res_tmp h10) (fin_retO (finO_own (o := (x_14 : NL Int))) rfl (mine_own rfl))
def s_l7Grow_o_b (F : Nat) (rc : (Int × (List (Int × Int))) → (List Int) → (List Int) → (List Int) → Int → Option (NL Int)) (x_1 : (Int × (List (Int × Int)))) (x_2 : (List Int)) (x_3 : (List Int)) (x_4 : (List Int)) (x_5 : Int) : Option (NL Int) :=
  (s_l1Own_o F x_3).bind fun r_6 =>
  (s_l2Parts F x_1 x_4).bind fun r_7 =>
  s_l7Grow_o_l1 F rc x_2 x_5 x_1 r_7 F r_6 0
theorem t140o (H : H140o D σ F rc) (x_1 : (Int × (List (Int × Int)))) (x_2 : (List Int)) (x_3 : (List Int)) (x_4 : (List Int)) (x_5 : Int) (s : Nat → V) (hs : Facts [(0, (.agg [(ji x_1.1), (Enc.enc (x_1.2 : List (Int × Int)))])), (1, (eL x_2)), (2, (eL x_3)), (3, (eL x_4)), (4, (ji x_5))] s) (h : s_l7Grow_o_b F rc x_1 x_2 x_3 x_4 x_5 = some r) : Run D σ (R140o r) (.run A140o []) s := by
  unfold s_l7Grow_o_b at h
  obtain ⟨h0, h1, h2, h3, h4⟩ := hs
  refine .seq (run_reg ?_)
  refine e_clr ?_
  refine ez [(0, _), (1, _), (2, _), (3, _), (4, _), (5, _)] ⟨(keep_clear (pk := [5]) h0 rfl (map_agg (maps_cons mi (maps_cons me maps_nil)))), (keep_clear (pk := [5]) h1 rfl me), (keep_clear (pk := [5]) h2 rfl me), (keep_clear (pk := [5]) h3 rfl me), (keep_clear (pk := [5]) h4 rfl mi), (gone_clear (pk := [5]) (t := 5) rfl)⟩ ?_
  rintro s ⟨h0, h1, h2, h3, h4, h5⟩
  refine g_box (.agg [(ji x_1.1), (Enc.enc (x_1.2 : List (Int × Int)))]) (rd_of h0 rfl) h5 rfl ?_
  refine g0 (.sl .nl (Enc.shp Int) 0 []) fun h10 => ?_
  refine gq (.nsq (.seq (run_reg ?_)))
  refine e_clr ?_
  refine ez [(1, _), (2, _), (3, _), (4, _), (5, _), (10, _), (16, _)] ⟨(keep_clear (pk := [16]) h1 rfl me), (keep_clear (pk := [16]) h2 rfl me), (keep_clear (pk := [16]) h3 rfl me), (keep_clear (pk := [16]) h4 rfl mi), (keep_clear (pk := [16]) rfl rfl (map_bx rfl (map_agg (maps_cons mi (maps_cons me maps_nil))))), (keep_clear (pk := [16]) h10 rfl rfl), (gone_clear (pk := [16]) (t := 16) rfl)⟩ ?_
  rintro s ⟨h1, h2, h3, h4, h5, h10, h16⟩
  refine gm h2 fun h15 => ?_
  obtain ⟨r_6, E_r_6, h⟩ := bind_some h
  refine g_callO (m := 1) (al := false) (r := (encO .sh (r_6 : NL Int))) (v := (oI 16 [] r_6)) (kk := 1000000097) [Enc.enc (x_3 : (List Int))] (ta_cons (v := (eL x_3)) h15 rfl (Enc.erase_enc (x_3 : (List Int))) ta_nil) (H.c97o _ _ E_r_6) H.g97o rfl toks_encS tag_encO ok_encP h16 ?_
  refine gv (oI 16 [] r_6) (ev_mov rfl ok_encO) fun h11 => ?_
  refine g_end ?_
  refine e_home (r := 16) (x := 11) (v := _) h11 ok_encO (fun s_3 hg_3 => ?_)
  refine ez [(1, (eL x_2)), (3, (eL x_4)), (4, (ji x_5)), (5, (.ref (.bx 5) 0 [] (.agg [(ji x_1.1), (Enc.enc (x_1.2 : List (Int × Int)))]))), (10, (.sl .nl (Enc.shp Int) 0 [])), (11, (oI 11 [] r_6))] ⟨(hg_3 1 _ _ h1 me), (hg_3 3 _ _ h3 me), (hg_3 4 _ _ h4 mi), (hg_3 5 _ _ h5 (map_bx rfl (map_agg (maps_cons mi (maps_cons me maps_nil))))), (hg_3 10 _ (.sl .nl (Enc.shp Int) 0 []) h10 rfl), (hg_3 11 _ _ h11 (map_encO (r := 16) (p := []) rfl rfl))⟩ ?_
  rintro s ⟨h1, h3, h4, h5, h10, h11⟩
  refine .nsq (.seq (rg (g1 5 (.agg [(ji x_1.1), (Enc.enc (x_1.2 : List (Int × Int)))]) h5 fun h17 => ?_)))
  refine gm h3 fun h18 => ?_
  obtain ⟨r_7, E_r_7, h⟩ := bind_some h
  refine g_call (m := 0) (al := true) (r := (Enc.enc (r_7 : (List (List Int))))) [Enc.enc (x_1 : (Int × (List (Int × Int)))), Enc.enc (x_4 : (List Int))] (ta_cons (v := (.agg [(ji x_1.1), (Enc.enc (x_1.2 : List (Int × Int)))])) h17 rfl (Enc.erase_enc (x_1 : (Int × (List (Int × Int))))) (ta_cons (v := (eL x_4)) h18 rfl (Enc.erase_enc (x_4 : (List Int))) ta_nil)) (H.c148 _ _ _ E_r_7) H.g148 (hal_of (ht_cons (v := (.agg [(ji x_1.1), (Enc.enc (x_1.2 : List (Int × Int)))])) h17 rfl rfl (ht_cons (v := (eL x_4)) h18 rfl rfl ht_nil))) rfl rfl rfl ?_
  refine gm (rfl : (_ : V) = (Enc.enc (r_7 : List (List Int)))) fun h12 => ?_
  refine gq (.nsq (.seq (.seq (rg (g0 (ji 0) fun h13 => gq (.nsq (.block (.loop ?_))))))))
  exact t_f140o_l1 H x_2 x_5 x_1 r_7 F r_6 0 _ ⟨h1, h4, h5, h10, h11, h12, h13⟩ h
end
def s_l7Grow_o_r (F : Nat) : Nat → (Int × (List (Int × Int))) → (List Int) → (List Int) → (List Int) → Int → Option (NL Int)
  | 0, _, _, _, _, _ => none
  | k + 1, x0, x1, x2, x3, x4 => s_l7Grow_o_b F (s_l7Grow_o_r F k) x0 x1 x2 x3 x4
def s_l7Grow_o (F : Nat) (x0 : (Int × (List (Int × Int)))) (x1 : (List Int)) (x2 : (List Int)) (x3 : (List Int)) (x4 : Int) : Option (NL Int) := s_l7Grow_o_r F F x0 x1 x2 x3 x4
def e140o (F : Nat) (k : Nat) : Ent := ent 1000000140 (fun (x : ((Int × (List (Int × Int))) × (List Int) × (List Int) × (List Int) × Int × Unit)) => s_l7Grow_o_r F k x.1 x.2.1 x.2.2.1 x.2.2.2.1 x.2.2.2.2.1) (fun (r : (NL Int)) => (encO .sh (r : NL Int))) 1 false []
theorem p140o {F : Nat} {k : Nat} {x0 : (Int × (List (Int × Int)))} {x1 : (List Int)} {x2 : (List Int)} {x3 : (List Int)} {x4 : Int} {r : (NL Int)} (h : s_l7Grow_o_r F k x0 x1 x2 x3 x4 = some r) : (e140o F k).den [Enc.enc x0, Enc.enc x1, Enc.enc x2, Enc.enc x3, Enc.enc x4] = some (encO .sh (r : NL Int)) := ent_put (x0, x1, x2, x3, x4, ()) h
theorem z140o {F : Nat} : (e140o F 0).Ok Try.prog := by
  refine ok_of (f := 140) (show unk 1000000140 = 140 from rfl) (fun args r h => ?_) ⟨Try.f140, Try.func140, rfl, rfl⟩
  obtain ⟨⟨x0, x1, x2, x3, x4, _⟩, y, rfl, hy, rfl⟩ := da_open h
  cases hy
theorem o140o {D : Den} {σ : Sig} {F k : Nat} (hF : Fits2 Try.prog D σ) (H : H140o D σ F (s_l7Grow_o_r F k)) : (e140o F (k + 1)).Ok Try.prog := by
  refine ok_of (f := 140) (show unk 1000000140 = 140 from rfl) (fun args r h => ?_) ⟨Try.f140, Try.func140, rfl, rfl⟩
  obtain ⟨⟨x0, x1, x2, x3, x4, _⟩, y, rfl, hy, rfl⟩ := da_open h
  exact contract_run hF (by kernel_rfl) Try.func140 rfl c140o (show 5 ≤ Try.f140.ntmps by decide) (t140o H x0 x1 x2 x3 x4 _ ⟨rfl, rfl, rfl, rfl, rfl⟩ hy)
end Go.Zq
