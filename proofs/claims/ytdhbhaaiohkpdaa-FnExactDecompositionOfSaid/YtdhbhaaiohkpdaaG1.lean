/- Functions of the program as typed functions, and that the machine runs as they say (part 1). No further condition. -/
import Derived.Test.YtdhbhaaiohkpdaaK3
import Derived.Test.YtdhbhaaiohkpdaaKC
import Derived.Test.YtdhbhaaiohkpdaaProg
import Derived.Test.YtdhbhaaiohkpdaaChecked
import Derived.KernelRfl
set_option linter.unusedVariables false
set_option linter.unusedSimpArgs false
/- Functions of the program, as typed functions, and that the machine runs as they say. -/
namespace Go.Zq
open Go.Proofs Go.Shelf
/- loop.example/g01109/laws.szIntA2S -/
def A59_3 : AC := (.cond (.t 10) (.seq (.reg [] [((jv 4 (.mov (jn (-1)))))] []) .ret) .skip)
def A59_4 : AC := (.seq (.reg [] [(jm 11 1), (jm 4 11)] []) .ret)
def A59_2 : AC := (.seq (.seq (.reg [] [(jm 9 1), ((jv 10 (.bin .lss (.t 9) (jn 0))))] []) A59_3) A59_4)
def A59_1 : AC := (.seq (.reg [] [(jm 5 1), (jm 6 0), ((jv 7 (.len (.t 6)))), ((jv 8 (.bin .sub (.t 5) (.t 7)))), (jm 1 8)] []) A59_2)
def A59 : AC := (.seq (.reg [] [((jv 4 (.mov (jn 0))))] []) A59_1)
def an59 : List An := []
theorem c59 : cC Try.prog Try.f59.ntmps an59 (Try.f59.body.getD .skip) = some A59 := by kernel_rfl
structure H59 (D : Den) (σ : Sig) (F : Nat) : Prop where
  mk ::
abbrev R59 (r : Int) : (Nat → V) → Prop := RR Try.prog [.tmp 4] 0 false (Enc.enc (r : Int))
section
variable {D : Den} {σ : Sig} {F : Nat} {r : Int}
def w_szIntA2S (F : Nat) (x_1 : (List (Int × Int))) (x_2 : Int) : Option Int :=
  bif decide ((w64 (x_2 - (x_1.length : Int))) < 0) then
    some (-1)
  else
    some (w64 (x_2 - (x_1.length : Int)))
theorem t59 (H : H59 D σ F) (x_1 : (List (Int × Int))) (x_2 : Int) (s : Nat → V) (hs : Facts [(0, (Enc.enc (x_1 : List (Int × Int)))), (1, (ji x_2))] s) (h : w_szIntA2S F x_1 x_2 = some r) : Run D σ (R59 r) (.run A59 []) s := by
  unfold w_szIntA2S at h
  obtain ⟨h0, h1⟩ := hs
  refine .seq (rg (g0 (ji 0) fun h4 => gq (.nsq (.seq (rg (gm h1 fun h5 => gm h0 fun h6 => gv (ji (x_1.length : Int)) (ev_len (xs := x_1) h6) fun h7 => ?_))))))
  refine g2 5 7 (ji (w64 (x_2 - (x_1.length : Int)))) h5 h7 fun h8 => ?_
  refine gm h8 fun h1 => gq (.nsq (.seq (.seq (rg (gm h1 fun h9 => g1 9 (jb (decide ((w64 (x_2 - (x_1.length : Int))) < 0))) h9 fun h10 => ?_)))))
  refine gq (.nsq (run_cond (t := decide ((w64 (x_2 - (x_1.length : Int))) < 0)) h10 h (fun h => ?_) (fun h => ?_)))
  · refine .seq (rg (g0 (ji (-1)) fun h4 => ?_))
    refine gq (.nsq (.ret ?_))
    have hr := Option.some.inj h
    subst hr
    exact rrA (res_tmp h4) rfl
  refine .skip (.nsq (.seq (rg (gm h1 fun h11 => gm h11 fun h4 => gq (.nsq (.ret ?_))))))
  have hr := Option.some.inj h
  subst hr
  exact rrA (res_tmp h4) rfl
end
def e59 (F : Nat) : Ent := ent 59 (fun (x : ((List (Int × Int)) × Int × Unit)) => w_szIntA2S F x.1 x.2.1) (fun (r : Int) => (Enc.enc (r : Int))) 0 false []
theorem p59 {F : Nat} {x0 : (List (Int × Int))} {x1 : Int} {r : Int} (h : w_szIntA2S F x0 x1 = some r) : (e59 F).den [Enc.enc x0, Enc.enc x1] = some (Enc.enc (r : Int)) := ent_put (x0, x1, ()) h
theorem o59 {D : Den} {σ : Sig} {F : Nat} (hF : Fits2 Try.prog D σ) (H : H59 D σ F) : (e59 F).Ok Try.prog := by
  refine ok_of (f := 59) (show unk 59 = 59 from rfl) (fun args r h => ?_) ⟨Try.f59, Try.func59, rfl, rfl⟩
  obtain ⟨⟨x0, x1, _⟩, y, rfl, hy, rfl⟩ := da_open h
  exact contract_run hF (by kernel_rfl) Try.func59 rfl c59 (show 2 ≤ Try.f59.ntmps by decide) (t59 H x0 x1 _ ⟨rfl, rfl⟩ hy)
/- loop.example/g01109/laws.szGraph -/
def A15_3 : AC := (.cond (.t 10) (.seq (.reg [] [((jv 4 (.mov (jn (-1)))))] []) .ret) .skip)
def A15_4 : AC := (.seq (.reg [] [(jm 11 1), (jm 4 11)] []) .ret)
def A15_2 : AC := (.seq (.seq (.reg [] [(jm 9 1), ((jv 10 (.bin .lss (.t 9) (jn 0))))] []) A15_3) A15_4)
def A15_1 : AC := (.seq (.reg [] [((jv 5 (.fld (.t 2) 1 1))), ((jv 6 (.load .p (.t 5)))), (jm 7 1), (.mk (some 8) none false (.call (.k (.fn 59 [] [])) [(.t 6), (.t 7)])), (jm 1 8)] []) A15_2)
def A15 : AC := (.seq (.reg [.clr [2]] [(.mk (some 2) none false (.box (.t 0))), ((jv 4 (.mov (jn 0))))] []) A15_1)
def an15 : List An := [{ id := 0, pre := [.clr [2]], ep := [], lin := [], sp := [] }]
theorem c15 : cC Try.prog Try.f15.ntmps an15 (Try.f15.body.getD .skip) = some A15 := by kernel_rfl
structure H15 (D : Den) (σ : Sig) (F : Nat) : Prop where
  c59 : ∀ (x0 : (List (Int × Int))) (x1 : Int) r, w_szIntA2S F x0 x1 = some r → D 59 [Enc.enc x0, Enc.enc x1] = some (Enc.enc (r : Int))
  g59 : σ 59 = some (0, false)
abbrev R15 (r : Int) : (Nat → V) → Prop := RR Try.prog [.tmp 4] 0 false (Enc.enc (r : Int))
section
variable {D : Den} {σ : Sig} {F : Nat} {r : Int}
def w_szGraph (F : Nat) (x_1 : (Int × (List (Int × Int)))) (x_2 : Int) : Option Int :=
  (w_szIntA2S F x_1.2 x_2).bind fun r_3 =>
  bif decide (r_3 < 0) then
    some (-1)
  else
    some r_3
theorem t15 (H : H15 D σ F) (x_1 : (Int × (List (Int × Int)))) (x_2 : Int) (s : Nat → V) (hs : Facts [(0, (.agg [(ji x_1.1), (Enc.enc (x_1.2 : List (Int × Int)))])), (1, (ji x_2))] s) (h : w_szGraph F x_1 x_2 = some r) : Run D σ (R15 r) (.run A15 []) s := by
  unfold w_szGraph at h
  obtain ⟨h0, h1⟩ := hs
  refine .seq (run_reg ?_)
  refine e_clr ?_
  refine ez [(0, _), (1, _), (2, _)] ⟨(keep_clear (pk := [2]) h0 rfl (map_agg (maps_cons mi (maps_cons me maps_nil)))), (keep_clear (pk := [2]) h1 rfl mi), (gone_clear (pk := [2]) (t := 2) rfl)⟩ ?_
  rintro s ⟨h0, h1, h2⟩
  refine g_box (.agg [(ji x_1.1), (Enc.enc (x_1.2 : List (Int × Int)))]) (rd_of h0 rfl) h2 rfl ?_
  refine g0 (ji 0) fun h4 => gq (.nsq (.seq (rg (g1 2 (.ref (.bx 2) 0 [1] (Enc.enc (x_1.2 : List (Int × Int)))) (rfl : (_ : V) = (.ref (.bx 2) 0 [] (.agg [(ji x_1.1), (Enc.enc (x_1.2 : List (Int × Int)))]))) fun h5 => ?_))))
  refine g1 5 (Enc.enc (x_1.2 : List (Int × Int))) h5 fun h6 => ?_
  refine gm h1 fun h7 => ?_
  obtain ⟨r_3, E_r_3, h⟩ := bind_some h
  refine g_call (m := 0) (al := false) (r := (Enc.enc (r_3 : Int))) [Enc.enc (x_1.2 : (List (Int × Int))), Enc.enc (x_2 : Int)] (ta_cons (v := (Enc.enc (x_1.2 : List (Int × Int)))) h6 rfl (Enc.erase_enc (x_1.2 : (List (Int × Int)))) (ta_cons (v := (ji x_2)) h7 rfl rfl ta_nil)) (H.c59 _ _ _ E_r_3) H.g59 rfl rfl rfl rfl ?_
  refine gm (rfl : (_ : V) = (ji r_3)) fun h1 => ?_
  refine gq (.nsq (.seq (.seq (rg (gm h1 fun h9 => g1 9 (jb (decide (r_3 < 0))) h9 fun h10 => ?_)))))
  refine gq (.nsq (run_cond (t := decide (r_3 < 0)) h10 h (fun h => ?_) (fun h => ?_)))
  · refine .seq (rg (g0 (ji (-1)) fun h4 => ?_))
    refine gq (.nsq (.ret ?_))
    have hr := Option.some.inj h
    subst hr
    exact rrA (res_tmp h4) rfl
  refine .skip (.nsq (.seq (rg (gm h1 fun h11 => gm h11 fun h4 => gq (.nsq (.ret ?_))))))
  have hr := Option.some.inj h
  subst hr
  exact rrA (res_tmp h4) rfl
end
def e15 (F : Nat) : Ent := ent 15 (fun (x : ((Int × (List (Int × Int))) × Int × Unit)) => w_szGraph F x.1 x.2.1) (fun (r : Int) => (Enc.enc (r : Int))) 0 false []
theorem p15 {F : Nat} {x0 : (Int × (List (Int × Int)))} {x1 : Int} {r : Int} (h : w_szGraph F x0 x1 = some r) : (e15 F).den [Enc.enc x0, Enc.enc x1] = some (Enc.enc (r : Int)) := ent_put (x0, x1, ()) h
theorem o15 {D : Den} {σ : Sig} {F : Nat} (hF : Fits2 Try.prog D σ) (H : H15 D σ F) : (e15 F).Ok Try.prog := by
  refine ok_of (f := 15) (show unk 15 = 15 from rfl) (fun args r h => ?_) ⟨Try.f15, Try.func15, rfl, rfl⟩
  obtain ⟨⟨x0, x1, _⟩, y, rfl, hy, rfl⟩ := da_open h
  exact contract_run hF (by kernel_rfl) Try.func15 rfl c15 (show 2 ≤ Try.f15.ntmps by decide) (t15 H x0 x1 _ ⟨rfl, rfl⟩ hy)
/- loop.example/g01109/laws.toIntA2 -/
def A123_2 : AC := (.cond (.t 6) .skip (.exit 0))
def A123_4 : AC := (.reg [] [(jm 7 4), ((jv 8 (.bin .add (.t 7) (jn 1)))), (jm 4 8)] [])
def A123_3 : AC := (.seq (.block 1 (.reg [] [(jm 9 4), (jm 10 4), ((jv 11 (.idxA (.t 1) (.t 10) 2 1))), ((jv 12 (.load .s (.t 11)))), ((jv 13 (.idxA (.t 3) (.t 9) 2 1))), (.mk none none false (.store .s (.t 13) (.t 12)))] [])) A123_4)
def A123_1 : AC := (.seq (.seq (.reg [] [(jm 5 4), ((jv 6 (.bin .lss (.t 5) (jn 2))))] []) A123_2) A123_3)
def A123_5 : AC := (.seq (.reg [] [((jv 14 (.load (.ag [.s, .s]) (.t 3)))), (.mk none none false (.store (.ag [.s, .s]) (.t 2) (.t 14)))] []) .ret)
def A123_8 : AC := (.block 0 (.loop A123_1))
def A123_7 : AC := (.seq (.seq (.reg [] [((jv 4 (.mov (jn 0))))] []) A123_8) A123_5)
def A123_6 : AC := (.seq (.reg [.clr [3]] [(.mk (some 3) none false (.alloc (.agg [(.int .i64 (.ofNat 0)), (.int .i64 (.ofNat 0))])))] []) A123_7)
def A123 : AC := (.seq (.reg [.clr [1, 2]] [(.mk (some 1) none false (.box (.t 0))), (.mk (some 2) none false (.alloc (.agg [(.int .i64 (.ofNat 0)), (.int .i64 (.ofNat 0))])))] []) A123_6)
def an123 : List An := [{ id := 0, pre := [.clr [1, 2]], ep := [], lin := [], sp := [] }, { id := 1, pre := [.clr [3]], ep := [], lin := [], sp := [] }]
theorem c123 : cC Try.prog Try.f123.ntmps an123 (Try.f123.body.getD .skip) = some A123 := by kernel_rfl
structure H123 (D : Den) (σ : Sig) (F : Nat) : Prop where
  mk ::
abbrev R123 (r : (Int × Int)) : (Nat → V) → Prop := RR Try.prog [.cell 2 103] 0 false (Enc.enc (r : (Int × Int)))
section
variable {D : Den} {σ : Sig} {F : Nat} {r : (Int × Int)}
def w_toIntA2_l1 (F : Nat) (x_1 : (Int × Int))  : Nat → Int → Int → Int → Option (Int × Int)
  | 0, _, _, _ => none
  | k + 1, x_2, x_3, x_6 =>
    bif decide (x_3 < 2) then
      (idx [x_1.1, x_1.2] x_3).bind fun e_9 =>
      (idx [x_2, x_6] x_3).bind fun e_10 =>
      (w_toIntA2_l1 F x_1 k) (bif x_3 == 0 then e_9 else x_2) (w64 (x_3 + 1)) (bif x_3 == 1 then e_9 else x_6)
    else
      some (x_2, x_6)
theorem t_f123_l1 (H : H123 D σ F) (x_1 : (Int × Int))  : ∀ (k : Nat) (x_2 : Int) (x_3 : Int) (x_6 : Int) (s : Nat → V), Facts [(1, (.ref (.bx 1) 0 [] (.agg [(ji x_1.1), (ji x_1.2)]))), (2, (.ref (.bx 2) 0 [] (.agg [(ji 0), (ji 0)]))), (3, (.ref (.bx 3) 0 [] (.agg [(ji x_2), (ji x_6)]))), (4, (ji x_3))] s → w_toIntA2_l1 F x_1 k x_2 x_3 x_6 = some r → Run D σ (R123 r) (.run A123_1 [.lp A123_1, .bk 0, .sq A123_5]) s := by
  intro k
  induction k with
  | zero => intro x_2 x_3 x_6 s _ h; exact nomatch (h : (none : Option _) = some r)
  | succ k ih =>
    intro x_2 x_3 x_6 s hs h
    rw [w_toIntA2_l1] at h
    obtain ⟨h1, h2, h3, h4⟩ := hs
    refine .seq (.seq (rg (gm h4 fun h5 => g1 5 (jb (decide (x_3 < 2))) h5 fun h6 => ?_)))
    refine gq (.nsq (run_cond (t := decide (x_3 < 2)) h6 h (fun h => ?_) (fun h => ?_)))
    · refine .skip (.nsq (.seq (.block (rg (gm h4 fun h9 => gm h4 fun h10 => ?_)))))
      obtain ⟨e_9, E_e_9, h⟩ := bind_some h
      refine gv (.ref (.bx 1) 0 [x_3.toNat] (ji e_9)) (ev_idxA (xs := [x_1.1, x_1.2]) (a := e_9) (n := x_3) (q := []) h1 h10 E_e_9 rfl rfl rfl) fun h11 => ?_
      refine g1 11 (ji e_9) h11 fun h12 => ?_
      obtain ⟨e_10, E_e_10, h⟩ := bind_some h
      refine gv (.ref (.bx 3) 0 [x_3.toNat] (ji e_10)) (ev_idxA (xs := [x_2, x_6]) (a := e_10) (n := x_3) (q := []) h3 h9 E_e_10 rfl rfl rfl) fun h13 => ?_
      refine g_store (ji e_9) (rd_of h13 rfl) (rd_of h12 rfl) (by refine ⟨by decide, by decide, rfl, rfl, rfl, ?_⟩; first | rfl | (simp [V.toks, V.tokss, Enc.toks_enc]; done) | simp [V.toks, V.tokss, Enc.toks_enc, tok_memP]) ?_
      refine gz [(1, (.ref (.bx 1) 0 [] (.agg [(ji x_1.1), (ji x_1.2)]))), (2, (.ref (.bx 2) 0 [] (.agg [(ji 0), (ji 0)]))), (3, (.ref (.bx 3) 0 [] (.agg [(ji (bif x_3 == 0 then e_9 else x_2)), (ji (bif x_3 == 1 then e_9 else x_6))]))), (4, (ji x_3))] ⟨(keep_mut h1 rfl), (keep_mut h2 rfl), (keep_mut h3 (mut_ix2 E_e_10 rfl)), (keep_mut h4 rfl)⟩ ?_
      rintro s ⟨h1, h2, h3, h4⟩
      refine .nbk (.nsq (rg (gm h4 fun h7 => g1 7 (ji (w64 (x_3 + 1))) h7 fun h8 => ?_)))
      refine gm h8 fun h4 => gq (.nlp ?_)
      exact ih (bif x_3 == 0 then e_9 else x_2) (w64 (x_3 + 1)) (bif x_3 == 1 then e_9 else x_6) _ ⟨h1, h2, h3, h4⟩ h
    refine .exit (.esq (.elp (.ebk (.nsq (.seq (rg (g1 3 (.agg [(ji x_2), (ji x_6)]) h3 fun h14 => ?_)))))))
    refine g_store (.agg [(ji x_2), (ji x_6)]) (rd_of h2 rfl) (rd_of h14 rfl) (by refine ⟨by decide, by decide, rfl, rfl, rfl, ?_⟩; first | rfl | (simp [V.toks, V.tokss, Enc.toks_enc]; done) | simp [V.toks, V.tokss, Enc.toks_enc, tok_memP]) ?_
    refine gz [(2, (.ref (.bx 2) 0 [] (.agg [(ji x_2), (ji x_6)])))] (keep_mut h2 rfl) ?_
    rintro s h2
    refine .nsq (.ret ?_)
    have hr := Option.some.inj h
    subst hr
    exact rrA (res_cell h2 (by kernel_rfl)) rfl
def w_toIntA2 (F : Nat) (x_1 : (Int × Int)) : Option (Int × Int) :=
  w_toIntA2_l1 F x_1 F 0 0 0
theorem t123 (H : H123 D σ F) (x_1 : (Int × Int)) (s : Nat → V) (hs : Facts [(0, (.agg [(ji x_1.1), (ji x_1.2)]))] s) (h : w_toIntA2 F x_1 = some r) : Run D σ (R123 r) (.run A123 []) s := by
  unfold w_toIntA2 at h
  have h0 := hs
  refine .seq (run_reg ?_)
  refine e_clr ?_
  refine ez [(0, _), (1, _), (2, _)] ⟨(keep_clear (pk := [1, 2]) h0 rfl (map_agg (maps_cons mi (maps_cons mi maps_nil)))), (gone_clear (pk := [1, 2]) (t := 1) rfl), (gone_clear (pk := [1, 2]) (t := 2) rfl)⟩ ?_
  rintro s ⟨h0, h1, h2⟩
  refine g_box (.agg [(ji x_1.1), (ji x_1.2)]) (rd_of h0 rfl) h1 rfl ?_
  refine g_alloc h2 ?_
  refine gq (.nsq (.seq (run_reg ?_)))
  refine e_clr ?_
  refine ez [(1, _), (2, _), (3, _)] ⟨(keep_clear (pk := [3]) rfl rfl (map_bx rfl (map_agg (maps_cons mi (maps_cons mi maps_nil))))), (keep_clear (pk := [3]) rfl rfl (map_bx rfl (map_agg (maps_cons mi (maps_cons mi maps_nil))))), (gone_clear (pk := [3]) (t := 3) rfl)⟩ ?_
  rintro s ⟨h1, h2, h3⟩
  refine g_alloc h3 ?_
  refine gq (.nsq (.seq (.seq (rg (g0 (ji 0) fun h4 => gq (.nsq (.block (.loop ?_))))))))
  exact t_f123_l1 H x_1 F 0 0 0 _ ⟨h1, h2, rfl, h4⟩ h
end
def e123 (F : Nat) : Ent := ent 123 (fun (x : ((Int × Int) × Unit)) => w_toIntA2 F x.1) (fun (r : (Int × Int)) => (Enc.enc (r : (Int × Int)))) 0 false []
theorem p123 {F : Nat} {x0 : (Int × Int)} {r : (Int × Int)} (h : w_toIntA2 F x0 = some r) : (e123 F).den [Enc.enc x0] = some (Enc.enc (r : (Int × Int))) := ent_put (x0, ()) h
theorem o123 {D : Den} {σ : Sig} {F : Nat} (hF : Fits2 Try.prog D σ) (H : H123 D σ F) : (e123 F).Ok Try.prog := by
  refine ok_of (f := 123) (show unk 123 = 123 from rfl) (fun args r h => ?_) ⟨Try.f123, Try.func123, rfl, rfl⟩
  obtain ⟨⟨x0, _⟩, y, rfl, hy, rfl⟩ := da_open h
  exact contract_run hF (by kernel_rfl) Try.func123 rfl c123 (show 1 ≤ Try.f123.ntmps by decide) (t123 H x0 _ rfl hy)
/- loop.example/g01109/laws.toIntA2S -/
def A62_2 : AC := (.cond (.t 11) .skip (.exit 0))
def A62_4 : AC := (.reg [] [(jm 12 4), ((jv 13 (.bin .add (.t 12) (jn 1)))), (jm 4 13)] [])
def A62_3 : AC := (.seq (.block 1 (.reg [] [(jm 14 3), (jm 15 4), (jm 16 0), (jm 17 4), ((jv 18 (.idx (.t 16) (.t 17) 2))), ((jv 19 (.load (.ag [.s, .s]) (.t 18)))), (.mk (some 20) none false (.call (.k (.fn 123 [] [])) [(.t 19)])), ((jv 21 (.idx (.t 14) (.t 15) 2))), (.mk none none false (.store (.ag [.s, .s]) (.t 21) (.t 20)))] [])) A62_4)
def A62_1 : AC := (.seq (.seq (.reg [] [(jm 8 4), (jm 9 0), ((jv 10 (.len (.t 9)))), ((jv 11 (.bin .lss (.t 8) (.t 10))))] []) A62_2) A62_3)
def A62_5 : AC := (.seq (.reg [] [(jm 22 3), (jm 2 22)] [.home 3 2]) .ret)
def A62_8 : AC := (.block 0 (.loop A62_1))
def A62_7 : AC := (.seq (.seq (.reg [] [((jv 4 (.mov (jn 0))))] []) A62_8) A62_5)
def A62_6 : AC := (.seq (.reg [.clr [7]] [(jm 5 0), ((jv 6 (.len (.t 5)))), (.mk (some 7) none false (.mk (.t 6) (.agg [(.int .i64 (.ofNat 0)), (.int .i64 (.ofNat 0))]) (.agg [(.int .i64 (.ofNat 0)), (.int .i64 (.ofNat 0))]))), (jm 3 7)] [.home 7 3]) A62_7)
def A62 : AC := (.seq (.reg [] [((jv 2 (.mov (.k (.sl .nl (.ag [.s, .s]) 0 [])))))] []) A62_6)
def an62 : List An := [{ id := 1, pre := [.clr [7]], ep := [.home 7 3], lin := [], sp := [] }, { id := 6, pre := [], ep := [.home 3 2], lin := [], sp := [] }]
theorem c62 : cC Try.prog Try.f62.ntmps an62 (Try.f62.body.getD .skip) = some A62 := by kernel_rfl
structure H62 (D : Den) (σ : Sig) (F : Nat) : Prop where
  c123 : ∀ (x0 : (Int × Int)) r, w_toIntA2 F x0 = some r → D 123 [Enc.enc x0] = some (Enc.enc (r : (Int × Int)))
  g123 : σ 123 = some (0, false)
abbrev R62 (r : (List (Int × Int))) : (Nat → V) → Prop := RR Try.prog [.tmp 2] 0 false (Enc.enc (r : (List (Int × Int))))
section
variable {D : Den} {σ : Sig} {F : Nat} {r : (List (Int × Int))}
def w_toIntA2S_l1 (F : Nat) (x_1 : (List (Int × Int)))  : Nat → (List (Int × Int)) → Int → Option (List (Int × Int))
  | 0, _, _ => none
  | k + 1, x_6, x_7 =>
    bif decide (x_7 < (x_1.length : Int)) then
      (idx x_1 x_7).bind fun e_11 =>
      (w_toIntA2 F e_11).bind fun r_12 =>
      (idx x_6 x_7).bind fun e_13 =>
      (w_toIntA2S_l1 F x_1 k) (x_6.set x_7.toNat r_12) (w64 (x_7 + 1))
    else
      some x_6
theorem t_f62_l1 (H : H62 D σ F) (x_1 : (List (Int × Int)))  : ∀ (k : Nat) (x_6 : (List (Int × Int))) (x_7 : Int) (s : Nat → V), Facts [(0, (Enc.enc (x_1 : List (Int × Int)))), (2, (.sl .nl (Enc.shp (Int × Int)) 0 [])), (3, (encO (.at 3 []) (.of (x_6 : List (Int × Int))))), (4, (ji x_7))] s → w_toIntA2S_l1 F x_1 k x_6 x_7 = some r → Run D σ (R62 r) (.run A62_1 [.lp A62_1, .bk 0, .sq A62_5]) s := by
  intro k
  induction k with
  | zero => intro x_6 x_7 s _ h; exact nomatch (h : (none : Option _) = some r)
  | succ k ih =>
    intro x_6 x_7 s hs h
    rw [w_toIntA2S_l1] at h
    obtain ⟨h0, h2, h3, h4⟩ := hs
    refine .seq (.seq (rg (gm h4 fun h8 => gm h0 fun h9 => gv (ji (x_1.length : Int)) (ev_len (xs := x_1) h9) fun h10 => ?_)))
    refine g2 8 10 (jb (decide (x_7 < (x_1.length : Int)))) h8 h10 fun h11 => ?_
    refine gq (.nsq (run_cond (t := decide (x_7 < (x_1.length : Int))) h11 h (fun h => ?_) (fun h => ?_)))
    · refine .skip (.nsq (.seq (.block (rg (gm h3 fun h14 => gm h4 fun h15 => gm h0 fun h16 => gm h4 fun h17 => ?_)))))
      obtain ⟨e_11, E_e_11, h⟩ := bind_some h
      refine gv (.ref .sh 0 [] (.agg [(ji e_11.1), (ji e_11.2)])) (ev_idx (t := .sh) (lo := 0) (xs := x_1) h16 h17 E_e_11 rfl rfl) fun h18 => ?_
      refine g1 18 (.agg [(ji e_11.1), (ji e_11.2)]) h18 fun h19 => ?_
      obtain ⟨r_12, E_r_12, h⟩ := bind_some h
      refine g_call (m := 0) (al := false) (r := (Enc.enc (r_12 : (Int × Int)))) [Enc.enc (e_11 : (Int × Int))] (ta_cons (v := (.agg [(ji e_11.1), (ji e_11.2)])) h19 rfl (Enc.erase_enc (e_11 : (Int × Int))) ta_nil) (H.c123 _ _ E_r_12) H.g123 rfl rfl rfl rfl ?_
      obtain ⟨e_13, E_e_13, h⟩ := bind_some h
      refine gv (.ref (.at 3 []) x_7.toNat [] (.agg [(ji e_13.1), (ji e_13.2)])) (ev_idxO (o := (.of x_6)) h14 h15 E_e_13 rfl) fun h21 => ?_
      refine g_store (.agg [(ji r_12.1), (ji r_12.2)]) (rd_of h21 rfl) (rd_of rfl rfl) (by refine ⟨by decide, by decide, rfl, rfl, rfl, ?_⟩; first | rfl | (simp [V.toks, V.tokss, Enc.toks_enc]; done) | simp [V.toks, V.tokss, Enc.toks_enc, tok_memP]) ?_
      refine gz [(0, (Enc.enc (x_1 : List (Int × Int)))), (2, (.sl .nl (Enc.shp (Int × Int)) 0 [])), (3, _), (4, (ji x_7))] ⟨(keep_mut h0 (Enc.mut_enc _ _ _ _ (x_1 : List (Int × Int)))), (keep_mut h2 rfl), (keep_mut h3 mut_own), (keep_mut h4 rfl)⟩ ?_
      rintro s ⟨h0, h2, h3, h4⟩
      refine .nbk (.nsq (rg (gm h4 fun h12 => g1 12 (ji (w64 (x_7 + 1))) h12 fun h13 => ?_)))
      refine gm h13 fun h4 => gq (.nlp ?_)
      exact ih (x_6.set x_7.toNat r_12) (w64 (x_7 + 1)) _ ⟨h0, h2, h3, h4⟩ h
    refine .exit (.esq (.elp (.ebk (.nsq (.seq (rg (gm h3 fun h22 => gm h22 fun h2 => g_end ?_)))))))
    refine e_home (r := 3) (x := 2) (v := _) h2 rfl (fun s_3 hg_3 => ?_)
    refine ez [(2, (encO (.at 2 []) (.of (x_6 : List (Int × Int)))))] (hg_3 2 _ _ h2 (map_encO (r := 3) (p := []) rfl rfl)) ?_
    rintro s h2
    refine .nsq (.ret ?_)
    have hr := Option.some.inj h
    subst hr
    exact rrA (res_tmp h2) (fin_retF (fin_own (o := .of x_6)) (mine_own rfl))
def w_toIntA2S (F : Nat) (x_1 : (List (Int × Int))) : Option (List (Int × Int)) :=
  (mkN (x_1.length : Int) (0, 0)).bind fun mk_2 =>
  w_toIntA2S_l1 F x_1 F mk_2 0
theorem t62 (H : H62 D σ F) (x_1 : (List (Int × Int))) (s : Nat → V) (hs : Facts [(0, (Enc.enc (x_1 : List (Int × Int))))] s) (h : w_toIntA2S F x_1 = some r) : Run D σ (R62 r) (.run A62 []) s := by
  unfold w_toIntA2S at h
  have h0 := hs
  refine .seq (rg (g0 (.sl .nl (Enc.shp (Int × Int)) 0 []) fun h2 => ?_))
  refine gq (.nsq (.seq (run_reg ?_)))
  refine e_clr ?_
  refine ez [(0, _), (2, _), (7, _)] ⟨(keep_clear (pk := [7]) h0 rfl me), (keep_clear (pk := [7]) h2 rfl rfl), (gone_clear (pk := [7]) (t := 7) rfl)⟩ ?_
  rintro s ⟨h0, h2, h7⟩
  refine gm h0 fun h5 => gv (ji (x_1.length : Int)) (ev_len (xs := x_1) h5) fun h6 => ?_
  obtain ⟨mk_2, E_mk_2, h⟩ := bind_some h
  refine g_mk ((0, 0) : (Int × Int)) h6 rfl h7 E_mk_2 ?_
  refine gm (rfl : (_ : V) = (encO (.at 7 []) (.of (mk_2 : List (Int × Int))))) fun h3 => ?_
  refine g_end ?_
  refine e_home (r := 7) (x := 3) (v := _) h3 rfl (fun s_2 hg_2 => ?_)
  refine ez [(0, (Enc.enc (x_1 : List (Int × Int)))), (2, (.sl .nl (Enc.shp (Int × Int)) 0 [])), (3, (encO (.at 3 []) (.of (mk_2 : List (Int × Int)))))] ⟨(hg_2 0 _ _ h0 me), (hg_2 2 _ (.sl .nl (Enc.shp (Int × Int)) 0 []) h2 rfl), (hg_2 3 _ _ h3 (map_encO (r := 7) (p := []) rfl rfl))⟩ ?_
  rintro s ⟨h0, h2, h3⟩
  refine .nsq (.seq (.seq (rg (g0 (ji 0) fun h4 => gq (.nsq (.block (.loop ?_)))))))
  exact t_f62_l1 H x_1 F mk_2 0 _ ⟨h0, h2, h3, h4⟩ h
end
def e62 (F : Nat) : Ent := ent 62 (fun (x : ((List (Int × Int)) × Unit)) => w_toIntA2S F x.1) (fun (r : (List (Int × Int))) => (Enc.enc (r : (List (Int × Int))))) 0 false []
theorem p62 {F : Nat} {x0 : (List (Int × Int))} {r : (List (Int × Int))} (h : w_toIntA2S F x0 = some r) : (e62 F).den [Enc.enc x0] = some (Enc.enc (r : (List (Int × Int)))) := ent_put (x0, ()) h
theorem o62 {D : Den} {σ : Sig} {F : Nat} (hF : Fits2 Try.prog D σ) (H : H62 D σ F) : (e62 F).Ok Try.prog := by
  refine ok_of (f := 62) (show unk 62 = 62 from rfl) (fun args r h => ?_) ⟨Try.f62, Try.func62, rfl, rfl⟩
  obtain ⟨⟨x0, _⟩, y, rfl, hy, rfl⟩ := da_open h
  exact contract_run hF (by kernel_rfl) Try.func62 rfl c62 (show 1 ≤ Try.f62.ntmps by decide) (t62 H x0 _ rfl hy)
/- loop.example/g01109/laws.toGraph -/
def A17_4 : AC := (.seq (.reg [] [((jv 11 (.load (.ag [.s, .p]) (.t 3)))), (.mk none none false (.store (.ag [.s, .p]) (.t 2) (.t 11)))] []) .ret)
def A17_3 : AC := (.seq (.reg [] [((jv 7 (.fld (.t 1) 1 1))), ((jv 8 (.load .p (.t 7)))), (.mk (some 9) none false (.call (.k (.fn 62 [] [])) [(.t 8)])), ((jv 10 (.fld (.t 3) 1 1))), (.mk none none false (.store .p (.t 10) (.t 9)))] []) A17_4)
def A17_2 : AC := (.seq (.reg [] [((jv 4 (.fld (.t 1) 0 0))), ((jv 5 (.load .s (.t 4)))), ((jv 6 (.fld (.t 3) 0 0))), (.mk none none false (.store .s (.t 6) (.t 5)))] []) A17_3)
def A17_1 : AC := (.seq (.reg [.clr [3]] [(.mk (some 3) none false (.alloc (.agg [(.int .i64 (.ofNat 0)), (.sl .nl (.ag [.s, .s]) 0 [])])))] []) A17_2)
def A17 : AC := (.seq (.reg [.clr [1, 2]] [(.mk (some 1) none false (.box (.t 0))), (.mk (some 2) none false (.alloc (.agg [(.int .i64 (.ofNat 0)), (.sl .nl (.ag [.s, .s]) 0 [])])))] []) A17_1)
def an17 : List An := [{ id := 0, pre := [.clr [1, 2]], ep := [], lin := [], sp := [] }, { id := 1, pre := [.clr [3]], ep := [], lin := [], sp := [] }]
theorem c17 : cC Try.prog Try.f17.ntmps an17 (Try.f17.body.getD .skip) = some A17 := by kernel_rfl
structure H17 (D : Den) (σ : Sig) (F : Nat) : Prop where
  c62 : ∀ (x0 : (List (Int × Int))) r, w_toIntA2S F x0 = some r → D 62 [Enc.enc x0] = some (Enc.enc (r : (List (Int × Int))))
  g62 : σ 62 = some (0, false)
abbrev R17 (r : (Int × (List (Int × Int)))) : (Nat → V) → Prop := RR Try.prog [.cell 2 27] 0 true (Enc.enc (r : (Int × (List (Int × Int)))))
section
variable {D : Den} {σ : Sig} {F : Nat} {r : (Int × (List (Int × Int)))}
def w_toGraph (F : Nat) (x_1 : (Int × (List (Int × Int)))) : Option (Int × (List (Int × Int))) :=
  (w_toIntA2S F x_1.2).bind fun r_2 =>
  some (x_1.1, r_2)
theorem t17 (H : H17 D σ F) (x_1 : (Int × (List (Int × Int)))) (s : Nat → V) (hs : Facts [(0, (.agg [(ji x_1.1), (Enc.enc (x_1.2 : List (Int × Int)))]))] s) (h : w_toGraph F x_1 = some r) : Run D σ (R17 r) (.run A17 []) s := by
  unfold w_toGraph at h
  have h0 := hs
  refine .seq (run_reg ?_)
  refine e_clr ?_
  refine ez [(0, _), (1, _), (2, _)] ⟨(keep_clear (pk := [1, 2]) h0 rfl (map_agg (maps_cons mi (maps_cons me maps_nil)))), (gone_clear (pk := [1, 2]) (t := 1) rfl), (gone_clear (pk := [1, 2]) (t := 2) rfl)⟩ ?_
  rintro s ⟨h0, h1, h2⟩
  refine g_box (.agg [(ji x_1.1), (Enc.enc (x_1.2 : List (Int × Int)))]) (rd_of h0 rfl) h1 rfl ?_
  refine g_alloc h2 ?_
  refine gq (.nsq (.seq (run_reg ?_)))
  refine e_clr ?_
  refine ez [(1, _), (2, _), (3, _)] ⟨(keep_clear (pk := [3]) rfl rfl (map_bx rfl (map_agg (maps_cons mi (maps_cons me maps_nil))))), (keep_clear (pk := [3]) rfl rfl (map_bx rfl (map_agg (maps_cons mi (maps_cons rfl maps_nil))))), (gone_clear (pk := [3]) (t := 3) rfl)⟩ ?_
  rintro s ⟨h1, h2, h3⟩
  refine g_alloc h3 ?_
  refine gq (.nsq (.seq (rg (g1 1 (.ref (.bx 1) 0 [0] (ji x_1.1)) h1 fun h4 => ?_))))
  refine g1 4 (ji x_1.1) h4 fun h5 => ?_
  refine g1 3 (.ref (.bx 3) 0 [0] (ji 0)) (rfl : (_ : V) = (.ref (.bx 3) 0 [] (.agg [(ji 0), (.sl .nl (Enc.shp (Int × Int)) 0 [])]))) fun h6 => ?_
  refine g_store (ji x_1.1) (rd_of h6 rfl) (rd_of h5 rfl) (by refine ⟨by decide, by decide, rfl, rfl, rfl, ?_⟩; first | rfl | (simp [V.toks, V.tokss, Enc.toks_enc]; done) | simp [V.toks, V.tokss, Enc.toks_enc, tok_memP]) ?_
  refine gz [(1, (.ref (.bx 1) 0 [] (.agg [(ji x_1.1), (Enc.enc (x_1.2 : List (Int × Int)))]))), (2, (.ref (.bx 2) 0 [] (.agg [(ji 0), (.sl .nl (Enc.shp (Int × Int)) 0 [])]))), (3, (.ref (.bx 3) 0 [] (.agg [(ji x_1.1), (.sl .nl (Enc.shp (Int × Int)) 0 [])])))] ⟨(keep_mut h1 (mut_ref_ne rfl rfl (mut_agg (muts_cons rfl (muts_cons (Enc.mut_enc _ _ _ _ (x_1.2 : List (Int × Int))) rfl))))), (keep_mut h2 (mut_ref_ne rfl rfl (mut_agg (muts_cons rfl (muts_cons rfl rfl))))), (keep_mut rfl rfl)⟩ ?_
  rintro s ⟨h1, h2, h3⟩
  refine .nsq (.seq (rg (g1 1 (.ref (.bx 1) 0 [1] (Enc.enc (x_1.2 : List (Int × Int)))) h1 fun h7 => ?_)))
  refine g1 7 (Enc.enc (x_1.2 : List (Int × Int))) h7 fun h8 => ?_
  obtain ⟨r_2, E_r_2, h⟩ := bind_some h
  refine g_call (m := 0) (al := false) (r := (Enc.enc (r_2 : (List (Int × Int))))) [Enc.enc (x_1.2 : (List (Int × Int)))] (ta_cons (v := (Enc.enc (x_1.2 : List (Int × Int)))) h8 rfl (Enc.erase_enc (x_1.2 : (List (Int × Int)))) ta_nil) (H.c62 _ _ E_r_2) H.g62 rfl rfl rfl rfl ?_
  refine g1 3 (.ref (.bx 3) 0 [1] (.sl .nl (Enc.shp (Int × Int)) 0 [])) h3 fun h10 => ?_
  refine g_store (Enc.enc (r_2 : List (Int × Int))) (rd_of h10 rfl) (rd_of rfl rfl) (by refine ⟨by decide, by decide, rfl, rfl, rfl, ?_⟩; first | rfl | (simp [V.toks, V.tokss, Enc.toks_enc]; done) | simp [V.toks, V.tokss, Enc.toks_enc, tok_memP]) ?_
  refine gz [(2, (.ref (.bx 2) 0 [] (.agg [(ji 0), (.sl .nl (Enc.shp (Int × Int)) 0 [])]))), (3, (.ref (.bx 3) 0 [] (.agg [(ji x_1.1), (Enc.enc (r_2 : List (Int × Int)))])))] ⟨(keep_mut h2 (mut_ref_ne rfl rfl (mut_agg (muts_cons rfl (muts_cons rfl rfl))))), (keep_mut h3 rfl)⟩ ?_
  rintro s ⟨h2, h3⟩
  refine .nsq (.seq (rg (g1 3 (.agg [(ji x_1.1), (Enc.enc (r_2 : List (Int × Int)))]) h3 fun h11 => ?_)))
  refine g_store (.agg [(ji x_1.1), (Enc.enc (r_2 : List (Int × Int)))]) (rd_of h2 rfl) (rd_of h11 rfl) (by refine ⟨by decide, by decide, rfl, rfl, rfl, ?_⟩; first | rfl | (simp [V.toks, V.tokss, Enc.toks_enc]; done) | simp [V.toks, V.tokss, Enc.toks_enc, tok_memP]) ?_
  refine gz [(2, (.ref (.bx 2) 0 [] (.agg [(ji x_1.1), (Enc.enc (r_2 : List (Int × Int)))])))] (keep_mut h2 rfl) ?_
  rintro s h2
  refine .nsq (.ret ?_)
  have hr := Option.some.inj h
  subst hr
  exact rrA (res_cell h2 (by kernel_rfl)) (fin_ret1 (fin_enc (x := ((x_1.1, r_2) : (Int × (List (Int × Int)))))))
end
def e17 (F : Nat) : Ent := ent 17 (fun (x : ((Int × (List (Int × Int))) × Unit)) => w_toGraph F x.1) (fun (r : (Int × (List (Int × Int)))) => (Enc.enc (r : (Int × (List (Int × Int)))))) 0 true []
theorem p17 {F : Nat} {x0 : (Int × (List (Int × Int)))} {r : (Int × (List (Int × Int)))} (h : w_toGraph F x0 = some r) : (e17 F).den [Enc.enc x0] = some (Enc.enc (r : (Int × (List (Int × Int))))) := ent_put (x0, ()) h
theorem o17 {D : Den} {σ : Sig} {F : Nat} (hF : Fits2 Try.prog D σ) (H : H17 D σ F) : (e17 F).Ok Try.prog := by
  refine ok_of (f := 17) (show unk 17 = 17 from rfl) (fun args r h => ?_) ⟨Try.f17, Try.func17, rfl, rfl⟩
  obtain ⟨⟨x0, _⟩, y, rfl, hy, rfl⟩ := da_open h
  exact contract_run hF (by kernel_rfl) Try.func17 rfl c17 (show 1 ≤ Try.f17.ntmps by decide) (t17 H x0 _ rfl hy)
/- loop.example/g01109/laws.toIntS -/
def A18_2 : AC := (.cond (.t 11) .skip (.exit 0))
def A18_4 : AC := (.reg [] [(jm 12 4), ((jv 13 (.bin .add (.t 12) (jn 1)))), (jm 4 13)] [])
def A18_3 : AC := (.seq (.block 1 (.reg [] [(jm 14 3), (jm 15 4), (jm 16 0), (jm 17 4), ((jv 18 (.idx (.t 16) (.t 17) 1))), ((jv 19 (.load .s (.t 18)))), ((jv 20 (.idx (.t 14) (.t 15) 1))), (.mk none none false (.store .s (.t 20) (.t 19)))] [])) A18_4)
def A18_1 : AC := (.seq (.seq (.reg [] [(jm 8 4), (jm 9 0), ((jv 10 (.len (.t 9)))), ((jv 11 (.bin .lss (.t 8) (.t 10))))] []) A18_2) A18_3)
def A18_5 : AC := (.seq (.reg [] [(jm 21 3), (jm 2 21)] [.home 3 2]) .ret)
def A18_8 : AC := (.block 0 (.loop A18_1))
def A18_7 : AC := (.seq (.seq (.reg [] [((jv 4 (.mov (jn 0))))] []) A18_8) A18_5)
def A18_6 : AC := (.seq (.reg [.clr [7]] [(jm 5 0), ((jv 6 (.len (.t 5)))), (.mk (some 7) none false (.mk (.t 6) (.int .i64 (.ofNat 0)) (.int .i64 (.ofNat 0)))), (jm 3 7)] [.home 7 3]) A18_7)
def A18 : AC := (.seq (.reg [] [((jv 2 (.mov (.k (.sl .nl .s 0 [])))))] []) A18_6)
def an18 : List An := [{ id := 1, pre := [.clr [7]], ep := [.home 7 3], lin := [], sp := [] }, { id := 6, pre := [], ep := [.home 3 2], lin := [], sp := [] }]
theorem c18 : cC Try.prog Try.f18.ntmps an18 (Try.f18.body.getD .skip) = some A18 := by kernel_rfl
structure H18 (D : Den) (σ : Sig) (F : Nat) : Prop where
  mk ::
abbrev R18 (r : (List Int)) : (Nat → V) → Prop := RR Try.prog [.tmp 2] 0 false (Enc.enc (r : (List Int)))
section
variable {D : Den} {σ : Sig} {F : Nat} {r : (List Int)}
def w_toIntS_l1 (F : Nat) (x_1 : (List Int))  : Nat → (List Int) → Int → Option (List Int)
  | 0, _, _ => none
  | k + 1, x_5, x_6 =>
    bif decide (x_6 < (x_1.length : Int)) then
      (idx x_1 x_6).bind fun e_9 =>
      (idx x_5 x_6).bind fun e_10 =>
      (w_toIntS_l1 F x_1 k) (x_5.set x_6.toNat e_9) (w64 (x_6 + 1))
    else
      some x_5
theorem t_f18_l1 (H : H18 D σ F) (x_1 : (List Int))  : ∀ (k : Nat) (x_5 : (List Int)) (x_6 : Int) (s : Nat → V), Facts [(0, (eL x_1)), (2, (.sl .nl (Enc.shp Int) 0 [])), (3, (oI 3 [] (.of x_5))), (4, (ji x_6))] s → w_toIntS_l1 F x_1 k x_5 x_6 = some r → Run D σ (R18 r) (.run A18_1 [.lp A18_1, .bk 0, .sq A18_5]) s := by
  intro k
  induction k with
  | zero => intro x_5 x_6 s _ h; exact nomatch (h : (none : Option _) = some r)
  | succ k ih =>
    intro x_5 x_6 s hs h
    rw [w_toIntS_l1] at h
    obtain ⟨h0, h2, h3, h4⟩ := hs
    refine .seq (.seq (rg (gm h4 fun h8 => gm h0 fun h9 => gv (ji (x_1.length : Int)) (ev_len (xs := x_1) h9) fun h10 => ?_)))
    refine g2 8 10 (jb (decide (x_6 < (x_1.length : Int)))) h8 h10 fun h11 => ?_
    refine gq (.nsq (run_cond (t := decide (x_6 < (x_1.length : Int))) h11 h (fun h => ?_) (fun h => ?_)))
    · refine .skip (.nsq (.seq (.block (rg (gm h3 fun h14 => gm h4 fun h15 => gm h0 fun h16 => gm h4 fun h17 => ?_)))))
      obtain ⟨e_9, E_e_9, h⟩ := bind_some h
      refine gv (.ref .sh 0 [] (ji e_9)) (ev_idx (t := .sh) (lo := 0) (xs := x_1) h16 h17 E_e_9 rfl rfl) fun h18 => ?_
      refine g1 18 (ji e_9) h18 fun h19 => ?_
      obtain ⟨e_10, E_e_10, h⟩ := bind_some h
      refine gv (.ref (.at 3 []) x_6.toNat [] (ji e_10)) (ev_idxO (o := (.of x_5)) h14 h15 E_e_10 rfl) fun h20 => ?_
      refine g_store (ji e_9) (rd_of h20 rfl) (rd_of h19 rfl) (by refine ⟨by decide, by decide, rfl, rfl, rfl, ?_⟩; first | rfl | (simp [V.toks, V.tokss, Enc.toks_enc]; done) | simp [V.toks, V.tokss, Enc.toks_enc, tok_memP]) ?_
      refine gz [(0, (eL x_1)), (2, (.sl .nl (Enc.shp Int) 0 [])), (3, _), (4, (ji x_6))] ⟨(keep_mut h0 (Enc.mut_enc _ _ _ _ (x_1 : List Int))), (keep_mut h2 rfl), (keep_mut h3 mut_own), (keep_mut h4 rfl)⟩ ?_
      rintro s ⟨h0, h2, h3, h4⟩
      refine .nbk (.nsq (rg (gm h4 fun h12 => g1 12 (ji (w64 (x_6 + 1))) h12 fun h13 => ?_)))
      refine gm h13 fun h4 => gq (.nlp ?_)
      exact ih (x_5.set x_6.toNat e_9) (w64 (x_6 + 1)) _ ⟨h0, h2, h3, h4⟩ h
    refine .exit (.esq (.elp (.ebk (.nsq (.seq (rg (gm h3 fun h21 => gm h21 fun h2 => g_end ?_)))))))
    refine e_home (r := 3) (x := 2) (v := _) h2 rfl (fun s_3 hg_3 => ?_)
    refine ez [(2, (oI 2 [] (.of x_5)))] (hg_3 2 _ _ h2 (map_encO (r := 3) (p := []) rfl rfl)) ?_
    rintro s h2
    refine .nsq (.ret ?_)
    have hr := Option.some.inj h
    subst hr
    exact rrA (res_tmp h2) (fin_retF (fin_own (o := .of x_5)) (mine_own rfl))
def w_toIntS (F : Nat) (x_1 : (List Int)) : Option (List Int) :=
  (mkN (x_1.length : Int) (0 : Int)).bind fun mk_2 =>
  w_toIntS_l1 F x_1 F mk_2 0
theorem t18 (H : H18 D σ F) (x_1 : (List Int)) (s : Nat → V) (hs : Facts [(0, (eL x_1))] s) (h : w_toIntS F x_1 = some r) : Run D σ (R18 r) (.run A18 []) s := by
  unfold w_toIntS at h
  have h0 := hs
  refine .seq (rg (g0 (.sl .nl (Enc.shp Int) 0 []) fun h2 => ?_))
  refine gq (.nsq (.seq (run_reg ?_)))
  refine e_clr ?_
  refine ez [(0, _), (2, _), (7, _)] ⟨(keep_clear (pk := [7]) h0 rfl me), (keep_clear (pk := [7]) h2 rfl rfl), (gone_clear (pk := [7]) (t := 7) rfl)⟩ ?_
  rintro s ⟨h0, h2, h7⟩
  refine gm h0 fun h5 => gv (ji (x_1.length : Int)) (ev_len (xs := x_1) h5) fun h6 => ?_
  obtain ⟨mk_2, E_mk_2, h⟩ := bind_some h
  refine g_mk (0 : Int) h6 rfl h7 E_mk_2 ?_
  refine gm (rfl : (_ : V) = (oI 7 [] (.of mk_2))) fun h3 => ?_
  refine g_end ?_
  refine e_home (r := 7) (x := 3) (v := _) h3 rfl (fun s_2 hg_2 => ?_)
  refine ez [(0, (eL x_1)), (2, (.sl .nl (Enc.shp Int) 0 [])), (3, (oI 3 [] (.of mk_2)))] ⟨(hg_2 0 _ _ h0 me), (hg_2 2 _ (.sl .nl (Enc.shp Int) 0 []) h2 rfl), (hg_2 3 _ _ h3 (map_encO (r := 7) (p := []) rfl rfl))⟩ ?_
  rintro s ⟨h0, h2, h3⟩
  refine .nsq (.seq (.seq (rg (g0 (ji 0) fun h4 => gq (.nsq (.block (.loop ?_)))))))
  exact t_f18_l1 H x_1 F mk_2 0 _ ⟨h0, h2, h3, h4⟩ h
end
def e18 (F : Nat) : Ent := ent 18 (fun (x : ((List Int) × Unit)) => w_toIntS F x.1) (fun (r : (List Int)) => (Enc.enc (r : (List Int)))) 0 false []
theorem p18 {F : Nat} {x0 : (List Int)} {r : (List Int)} (h : w_toIntS F x0 = some r) : (e18 F).den [Enc.enc x0] = some (Enc.enc (r : (List Int))) := ent_put (x0, ()) h
theorem o18 {D : Den} {σ : Sig} {F : Nat} (hF : Fits2 Try.prog D σ) (H : H18 D σ F) : (e18 F).Ok Try.prog := by
  refine ok_of (f := 18) (show unk 18 = 18 from rfl) (fun args r h => ?_) ⟨Try.f18, Try.func18, rfl, rfl⟩
  obtain ⟨⟨x0, _⟩, y, rfl, hy, rfl⟩ := da_open h
  exact contract_run hF (by kernel_rfl) Try.func18 rfl c18 (show 1 ≤ Try.f18.ntmps by decide) (t18 H x0 _ rfl hy)
/- loop.example/g01109/spec.l1In -/
def A103_1 : AC := (.seq (.reg [] [(jm 7 0), (jm 8 1), ((jv 9 (.bin .geq (.t 7) (.t 8)))), (jm 10 9), ((jg 11 10 true (.mov (.t 0)))), ((jg 12 10 true (.mov (.t 2)))), ((jg 13 10 true (.bin .leq (.t 11) (.t 12)))), ((jv 14 (.pick (.t 10) (.t 13) (.k (.bool false))))), (jm 6 14)] []) .ret)
def A103 : AC := (.seq (.reg [] [((jv 6 (.mov (.k (.bool false)))))] []) A103_1)
def an103 : List An := []
theorem c103 : cC Try.prog Try.f103.ntmps an103 (Try.f103.body.getD .skip) = some A103 := by kernel_rfl
structure H103 (D : Den) (σ : Sig) (F : Nat) : Prop where
  mk ::
abbrev R103 (r : Bool) : (Nat → V) → Prop := RR Try.prog [.tmp 6] 0 false (Enc.enc (r : Bool))
section
variable {D : Den} {σ : Sig} {F : Nat} {r : Bool}
def s_l1In (F : Nat) (x_1 : Int) (x_2 : Int) (x_3 : Int) : Option Bool :=
  bif decide (x_1 ≥ x_2) then
    some (decide (x_1 ≤ x_3))
  else
    some false
theorem t103 (H : H103 D σ F) (x_1 : Int) (x_2 : Int) (x_3 : Int) (s : Nat → V) (hs : Facts [(0, (ji x_1)), (1, (ji x_2)), (2, (ji x_3))] s) (h : s_l1In F x_1 x_2 x_3 = some r) : Run D σ (R103 r) (.run A103 []) s := by
  unfold s_l1In at h
  obtain ⟨h0, h1, h2⟩ := hs
  refine .seq (rg (g0 (jb false) fun h6 => ?_))
  refine gq (.nsq (.seq (rg (gm h0 fun h7 => gm h1 fun h8 => g2 7 8 (jb (decide (x_1 ≥ x_2))) h7 h8 fun h9 => ?_))))
  refine gm h9 fun h10 => split_on (c := decide (x_1 ≥ x_2)) h (fun hg4 h => ?_) (fun hg4 h => ?_)
  · refine g_yes (h10.trans (congrArg V.bool hg4)) (gm h0 fun h11 => ?_)
    refine g_yes (h10.trans (congrArg V.bool hg4)) (gm h2 fun h12 => ?_)
    refine g_yes (h10.trans (congrArg V.bool hg4)) (g2 11 12 (jb (decide (x_1 ≤ x_3))) h11 h12 fun h13 => ?_)
    refine g2 10 13 (jb (decide (x_1 ≤ x_3))) (h10.trans (congrArg V.bool hg4)) h13 fun h14 => ?_
    refine gm h14 fun h6 => gq (.nsq (.ret ?_))
    have hr := Option.some.inj h
    subst hr
    exact rrA (res_tmp h6) rfl
  refine g_no (h10.trans (congrArg V.bool hg4)) ?_
  refine g_no (h10.trans (congrArg V.bool hg4)) ?_
  refine g_no (h10.trans (congrArg V.bool hg4)) ?_
  refine g2 10 13 (jb false) (h10.trans (congrArg V.bool hg4)) (rfl : (_ : V) = (.tup [])) fun h14 => ?_
  refine gm h14 fun h6 => gq (.nsq (.ret ?_))
  have hr := Option.some.inj h
  subst hr
  exact rrA (res_tmp h6) rfl
end
def e103 (F : Nat) : Ent := ent 103 (fun (x : (Int × Int × Int × Unit)) => s_l1In F x.1 x.2.1 x.2.2.1) (fun (r : Bool) => (Enc.enc (r : Bool))) 0 false []
theorem p103 {F : Nat} {x0 : Int} {x1 : Int} {x2 : Int} {r : Bool} (h : s_l1In F x0 x1 x2 = some r) : (e103 F).den [Enc.enc x0, Enc.enc x1, Enc.enc x2] = some (Enc.enc (r : Bool)) := ent_put (x0, x1, x2, ()) h
theorem o103 {D : Den} {σ : Sig} {F : Nat} (hF : Fits2 Try.prog D σ) (H : H103 D σ F) : (e103 F).Ok Try.prog := by
  refine ok_of (f := 103) (show unk 103 = 103 from rfl) (fun args r h => ?_) ⟨Try.f103, Try.func103, rfl, rfl⟩
  obtain ⟨⟨x0, x1, x2, _⟩, y, rfl, hy, rfl⟩ := da_open h
  exact contract_run hF (by kernel_rfl) Try.func103 rfl c103 (show 3 ≤ Try.f103.ntmps by decide) (t103 H x0 x1 x2 _ ⟨rfl, rfl, rfl⟩ hy)
/- loop.example/g01109/spec.l2Before -/
def A130_1 : AC := (.seq (.reg [] [((jv 5 (.idxA (.t 2) (jn 0) 2 1))), ((jv 6 (.load .s (.t 5)))), ((jv 7 (.idxA (.t 3) (jn 0) 2 1))), ((jv 8 (.load .s (.t 7)))), ((jv 9 (.bin .lss (.t 6) (.t 8)))), (jm 10 9), ((jg 11 10 false (.idxA (.t 2) (jn 0) 2 1))), ((jg 12 10 false (.load .s (.t 11)))), ((jg 13 10 false (.idxA (.t 3) (jn 0) 2 1))), ((jg 14 10 false (.load .s (.t 13)))), ((jg 15 10 false (.bin .eql (.t 12) (.t 14)))), ((jg 16 10 false (.mov (.t 15)))), ((jg 17 16 true (.idxA (.t 2) (jn 1) 2 1))), ((jg 18 16 true (.load .s (.t 17)))), ((jg 19 16 true (.idxA (.t 3) (jn 1) 2 1))), ((jg 20 16 true (.load .s (.t 19)))), ((jg 21 16 true (.bin .lss (.t 18) (.t 20)))), ((jg 22 10 false (.pick (.t 16) (.t 21) (.k (.bool false))))), ((jv 23 (.pick (.t 10) (.k (.bool true)) (.t 22)))), (jm 4 23)] []) .ret)
def A130 : AC := (.seq (.reg [.clr [2, 3]] [(.mk (some 2) none false (.box (.t 0))), (.mk (some 3) none false (.box (.t 1))), ((jv 4 (.mov (.k (.bool false)))))] []) A130_1)
def an130 : List An := [{ id := 0, pre := [.clr [2, 3]], ep := [], lin := [], sp := [] }]
theorem c130 : cC Try.prog Try.f130.ntmps an130 (Try.f130.body.getD .skip) = some A130 := by kernel_rfl
structure H130 (D : Den) (σ : Sig) (F : Nat) : Prop where
  mk ::
abbrev R130 (r : Bool) : (Nat → V) → Prop := RR Try.prog [.tmp 4] 0 false (Enc.enc (r : Bool))
section
variable {D : Den} {σ : Sig} {F : Nat} {r : Bool}
def s_l2Before (F : Nat) (x_1 : (Int × Int)) (x_2 : (Int × Int)) : Option Bool :=
  bif decide (x_1.1 < x_2.1) then
    some true
  else
    bif (x_1.1 == x_2.1) then
      some (decide (x_1.2 < x_2.2))
    else
      some false
theorem t130 (H : H130 D σ F) (x_1 : (Int × Int)) (x_2 : (Int × Int)) (s : Nat → V) (hs : Facts [(0, (.agg [(ji x_1.1), (ji x_1.2)])), (1, (.agg [(ji x_2.1), (ji x_2.2)]))] s) (h : s_l2Before F x_1 x_2 = some r) : Run D σ (R130 r) (.run A130 []) s := by
  unfold s_l2Before at h
  obtain ⟨h0, h1⟩ := hs
  refine .seq (run_reg ?_)
  refine e_clr ?_
  refine ez [(0, _), (1, _), (2, _), (3, _)] ⟨(keep_clear (pk := [2, 3]) h0 rfl (map_agg (maps_cons mi (maps_cons mi maps_nil)))), (keep_clear (pk := [2, 3]) h1 rfl (map_agg (maps_cons mi (maps_cons mi maps_nil)))), (gone_clear (pk := [2, 3]) (t := 2) rfl), (gone_clear (pk := [2, 3]) (t := 3) rfl)⟩ ?_
  rintro s ⟨h0, h1, h2, h3⟩
  refine g_box (.agg [(ji x_1.1), (ji x_1.2)]) (rd_of h0 rfl) h2 rfl ?_
  refine g_box (.agg [(ji x_2.1), (ji x_2.2)]) (rd_of h1 rfl) h3 rfl ?_
  refine g0 (jb false) fun h4 => ?_
  refine gq (.nsq (.seq (rg (g1 2 (.ref (.bx 2) 0 [0] (ji x_1.1)) (rfl : (_ : V) = (.ref (.bx 2) 0 [] (.agg [(ji x_1.1), (ji x_1.2)]))) fun h5 => ?_))))
  refine g1 5 (ji x_1.1) h5 fun h6 => ?_
  refine g1 3 (.ref (.bx 3) 0 [0] (ji x_2.1)) (rfl : (_ : V) = (.ref (.bx 3) 0 [] (.agg [(ji x_2.1), (ji x_2.2)]))) fun h7 => ?_
  refine g1 7 (ji x_2.1) h7 fun h8 => ?_
  refine g2 6 8 (jb (decide (x_1.1 < x_2.1))) h6 h8 fun h9 => ?_
  refine gm h9 fun h10 => split_on (c := decide (x_1.1 < x_2.1)) h (fun hg6 h => ?_) (fun hg6 h => ?_)
  · refine g_no (h10.trans (congrArg V.bool hg6)) ?_
    refine g_no (h10.trans (congrArg V.bool hg6)) ?_
    refine g_no (h10.trans (congrArg V.bool hg6)) ?_
    refine g_no (h10.trans (congrArg V.bool hg6)) ?_
    refine g_no (h10.trans (congrArg V.bool hg6)) ?_
    refine g_no (h10.trans (congrArg V.bool hg6)) ?_
    refine g_skip rfl ?_
    refine g_skip rfl ?_
    refine g_skip rfl ?_
    refine g_skip rfl ?_
    refine g_skip rfl ?_
    refine g_no (h10.trans (congrArg V.bool hg6)) ?_
    refine g2 10 22 (jb true) (h10.trans (congrArg V.bool hg6)) (rfl : (_ : V) = (.tup [])) fun h23 => ?_
    refine gm h23 fun h4 => gq (.nsq (.ret ?_))
    have hr := Option.some.inj h
    subst hr
    exact rrA (res_tmp h4) rfl
  refine g_yes (h10.trans (congrArg V.bool hg6)) (g1 2 (.ref (.bx 2) 0 [0] (ji x_1.1)) (rfl : (_ : V) = (.ref (.bx 2) 0 [] (.agg [(ji x_1.1), (ji x_1.2)]))) fun h11 => ?_)
  refine g_yes (h10.trans (congrArg V.bool hg6)) (g1 11 (ji x_1.1) h11 fun h12 => ?_)
  refine g_yes (h10.trans (congrArg V.bool hg6)) (g1 3 (.ref (.bx 3) 0 [0] (ji x_2.1)) (rfl : (_ : V) = (.ref (.bx 3) 0 [] (.agg [(ji x_2.1), (ji x_2.2)]))) fun h13 => ?_)
  refine g_yes (h10.trans (congrArg V.bool hg6)) (g1 13 (ji x_2.1) h13 fun h14 => ?_)
  refine g_yes (h10.trans (congrArg V.bool hg6)) (g2 12 14 (jb (x_1.1 == x_2.1)) h12 h14 fun h15 => ?_)
  refine g_yes (h10.trans (congrArg V.bool hg6)) (gm h15 fun h16 => ?_)
  refine split_on (c := (x_1.1 == x_2.1)) h (fun hg12 h => ?_) (fun hg12 h => ?_)
  · refine g_yes (h16.trans (congrArg V.bool hg12)) (g1 2 (.ref (.bx 2) 0 [1] (ji x_1.2)) (rfl : (_ : V) = (.ref (.bx 2) 0 [] (.agg [(ji x_1.1), (ji x_1.2)]))) fun h17 => ?_)
    refine g_yes (h16.trans (congrArg V.bool hg12)) (g1 17 (ji x_1.2) h17 fun h18 => ?_)
    refine g_yes (h16.trans (congrArg V.bool hg12)) (g1 3 (.ref (.bx 3) 0 [1] (ji x_2.2)) (rfl : (_ : V) = (.ref (.bx 3) 0 [] (.agg [(ji x_2.1), (ji x_2.2)]))) fun h19 => ?_)
    refine g_yes (h16.trans (congrArg V.bool hg12)) (g1 19 (ji x_2.2) h19 fun h20 => ?_)
    refine g_yes (h16.trans (congrArg V.bool hg12)) (g2 18 20 (jb (decide (x_1.2 < x_2.2))) h18 h20 fun h21 => ?_)
    refine g_yes (h10.trans (congrArg V.bool hg6)) (g2 16 21 (jb (decide (x_1.2 < x_2.2))) (h16.trans (congrArg V.bool hg12)) h21 fun h22 => ?_)
    refine g2 10 22 (jb (decide (x_1.2 < x_2.2))) (h10.trans (congrArg V.bool hg6)) h22 fun h23 => ?_
    refine gm h23 fun h4 => gq (.nsq (.ret ?_))
    have hr := Option.some.inj h
    subst hr
    exact rrA (res_tmp h4) rfl
  refine g_no (h16.trans (congrArg V.bool hg12)) ?_
  refine g_no (h16.trans (congrArg V.bool hg12)) ?_
  refine g_no (h16.trans (congrArg V.bool hg12)) ?_
  refine g_no (h16.trans (congrArg V.bool hg12)) ?_
  refine g_no (h16.trans (congrArg V.bool hg12)) ?_
  refine g_yes (h10.trans (congrArg V.bool hg6)) (g2 16 21 (jb false) (h16.trans (congrArg V.bool hg12)) (rfl : (_ : V) = (.tup [])) fun h22 => ?_)
  refine g2 10 22 (jb false) (h10.trans (congrArg V.bool hg6)) h22 fun h23 => ?_
  refine gm h23 fun h4 => gq (.nsq (.ret ?_))
  have hr := Option.some.inj h
  subst hr
  exact rrA (res_tmp h4) rfl
end
def e130 (F : Nat) : Ent := ent 130 (fun (x : ((Int × Int) × (Int × Int) × Unit)) => s_l2Before F x.1 x.2.1) (fun (r : Bool) => (Enc.enc (r : Bool))) 0 false []
theorem p130 {F : Nat} {x0 : (Int × Int)} {x1 : (Int × Int)} {r : Bool} (h : s_l2Before F x0 x1 = some r) : (e130 F).den [Enc.enc x0, Enc.enc x1] = some (Enc.enc (r : Bool)) := ent_put (x0, x1, ()) h
theorem o130 {D : Den} {σ : Sig} {F : Nat} (hF : Fits2 Try.prog D σ) (H : H130 D σ F) : (e130 F).Ok Try.prog := by
  refine ok_of (f := 130) (show unk 130 = 130 from rfl) (fun args r h => ?_) ⟨Try.f130, Try.func130, rfl, rfl⟩
  obtain ⟨⟨x0, x1, _⟩, y, rfl, hy, rfl⟩ := da_open h
  exact contract_run hF (by kernel_rfl) Try.func130 rfl c130 (show 2 ≤ Try.f130.ntmps by decide) (t130 H x0 x1 _ ⟨rfl, rfl⟩ hy)
/- loop.example/g01109/spec.l2Good -/
def A72_2 : AC := (.cond (.t 9) .skip (.exit 0))
def A72_5 : AC := (.cond (.t 54) (.seq (.reg [] [((jv 2 (.mov (.k (.bool false)))))] []) .ret) .skip)
def A72_4 : AC := (.seq (.reg [] [((jv 17 (.idxA (.t 4) (jn 0) 2 1))), ((jv 18 (.load .s (.t 17)))), ((jv 19 (.fld (.t 1) 0 0))), ((jv 20 (.load .s (.t 19)))), ((jv 21 (.bin .sub (.t 20) (jn 1)))), (.mk (some 22) none false (.call (.k (.fn 103 [] [])) [(.t 18), (jn 0), (.t 21)])), ((jv 23 (.un .not (.t 22)))), (jm 24 23), ((jg 25 24 false (.idxA (.t 4) (jn 1) 2 1))), ((jg 26 24 false (.load .s (.t 25)))), ((jg 27 24 false (.fld (.t 1) 0 0))), ((jg 28 24 false (.load .s (.t 27)))), ((jg 29 24 false (.bin .sub (.t 28) (jn 1)))), (.mk (some 30) (some (24, false)) false (.call (.k (.fn 103 [] [])) [(.t 26), (jn 0), (.t 29)])), ((jg 31 24 false (.un .not (.t 30)))), ((jv 32 (.pick (.t 24) (.k (.bool true)) (.t 31)))), (jm 33 32), ((jg 34 33 false (.idxA (.t 4) (jn 0) 2 1))), ((jg 35 33 false (.load .s (.t 34)))), ((jg 36 33 false (.idxA (.t 4) (jn 1) 2 1))), ((jg 37 33 false (.load .s (.t 36)))), ((jg 38 33 false (.bin .geq (.t 35) (.t 37)))), ((jv 39 (.pick (.t 33) (.k (.bool true)) (.t 38)))), (jm 40 39), ((jg 41 40 false (.mov (.t 3)))), ((jg 42 40 false (.bin .gtr (.t 41) (jn 0)))), ((jg 43 40 false (.mov (.t 42)))), ((jg 44 43 true (.fld (.t 1) 1 1))), ((jg 45 43 true (.load .p (.t 44)))), ((jg 46 43 true (.mov (.t 3)))), ((jg 47 43 true (.bin .sub (.t 46) (jn 1)))), ((jg 48 43 true (.idx (.t 45) (.t 47) 2))), ((jg 49 43 true (.load (.ag [.s, .s]) (.t 48)))), ((jg 50 43 true (.load (.ag [.s, .s]) (.t 4)))), (.mk (some 51) (some (43, true)) false (.call (.k (.fn 130 [] [])) [(.t 49), (.t 50)])), ((jg 52 43 true (.un .not (.t 51)))), ((jg 53 40 false (.pick (.t 43) (.t 52) (.k (.bool false))))), ((jv 54 (.pick (.t 40) (.k (.bool true)) (.t 53))))] []) A72_5)
def A72_6 : AC := (.reg [] [(jm 10 3), ((jv 11 (.bin .add (.t 10) (jn 1)))), (jm 3 11)] [])
def A72_3 : AC := (.seq (.block 1 (.seq (.reg [.clr [4]] [((jv 12 (.fld (.t 1) 1 1))), ((jv 13 (.load .p (.t 12)))), (jm 14 3), ((jv 15 (.idx (.t 13) (.t 14) 2))), ((jv 16 (.load (.ag [.s, .s]) (.t 15)))), (.mk (some 4) none false (.alloc (.agg [(.int .i64 (.ofNat 0)), (.int .i64 (.ofNat 0))]))), (.mk none none false (.store (.ag [.s, .s]) (.t 4) (.t 16)))] []) A72_4)) A72_6)
def A72_1 : AC := (.seq (.seq (.reg [] [(jm 5 3), ((jv 6 (.fld (.t 1) 1 1))), ((jv 7 (.load .p (.t 6)))), ((jv 8 (.len (.t 7)))), ((jv 9 (.bin .lss (.t 5) (.t 8))))] []) A72_2) A72_3)
def A72_7 : AC := (.seq (.reg [] [((jv 55 (.fld (.t 1) 0 0))), ((jv 56 (.load .s (.t 55)))), (.mk (some 57) none false (.call (.k (.fn 103 [] [])) [(.t 56), (jn 0), (jn 8)])), (jm 2 57)] []) .ret)
def A72_9 : AC := (.block 0 (.loop A72_1))
def A72_8 : AC := (.seq (.seq (.reg [] [((jv 3 (.mov (jn 0))))] []) A72_9) A72_7)
def A72 : AC := (.seq (.reg [.clr [1]] [(.mk (some 1) none false (.box (.t 0))), ((jv 2 (.mov (.k (.bool false)))))] []) A72_8)
def an72 : List An := [{ id := 0, pre := [.clr [1]], ep := [], lin := [], sp := [] }, { id := 4, pre := [.clr [4]], ep := [], lin := [], sp := [] }]
theorem c72 : cC Try.prog Try.f72.ntmps an72 (Try.f72.body.getD .skip) = some A72 := by kernel_rfl
structure H72 (D : Den) (σ : Sig) (F : Nat) : Prop where
  c103 : ∀ (x0 : Int) (x1 : Int) (x2 : Int) r, s_l1In F x0 x1 x2 = some r → D 103 [Enc.enc x0, Enc.enc x1, Enc.enc x2] = some (Enc.enc (r : Bool))
  g103 : σ 103 = some (0, false)
  c130 : ∀ (x0 : (Int × Int)) (x1 : (Int × Int)) r, s_l2Before F x0 x1 = some r → D 130 [Enc.enc x0, Enc.enc x1] = some (Enc.enc (r : Bool))
  g130 : σ 130 = some (0, false)
abbrev R72 (r : Bool) : (Nat → V) → Prop := RR Try.prog [.tmp 2] 0 false (Enc.enc (r : Bool))
section
variable {D : Den} {σ : Sig} {F : Nat} {r : Bool}
def s_l2Good_j1 (F : Nat) (x_1 : (Int × (List (Int × Int)))) (x_12 : Int) (c1 : Int → Option Bool) (x_28 : Bool) : Option Bool :=
  bif x_28 then
    some false
  else
    c1 (w64 (x_12 + 1))
theorem t_f72_j1 (H : H72 D σ F) (x_1 : (Int × (List (Int × Int)))) (x_12 : Int) (c1 : Int → Option Bool) (Hc1 : ∀ (x_12 : Int) (s : Nat → V), Facts [(1, (.ref (.bx 1) 0 [] (.agg [(ji x_1.1), (Enc.enc (x_1.2 : List (Int × Int)))]))), (2, (jb false)), (3, (ji x_12))] s → c1 x_12 = some r → Run D σ (R72 r) (.run A72_1 [.lp A72_1, .bk 0, .sq A72_7]) s) (x_28 : Bool) (s : Nat → V) (hs : Facts [(1, (.ref (.bx 1) 0 [] (.agg [(ji x_1.1), (Enc.enc (x_1.2 : List (Int × Int)))]))), (2, (jb false)), (3, (ji x_12)), (54, (jb x_28))] s) (h : s_l2Good_j1 F x_1 x_12 c1 x_28 = some r) : Run D σ (R72 r) (.nrm [.sq A72_5, .bk 1, .sq A72_6, .lp A72_1, .bk 0, .sq A72_7]) s := by
  unfold s_l2Good_j1 at h
  obtain ⟨h1, h2, h3, h54⟩ := hs
  refine .nsq (run_cond (t := x_28) h54 h (fun h => ?_) (fun h => ?_))
  · refine .seq (rg (g0 (jb false) fun h2 => ?_))
    refine gq (.nsq (.ret ?_))
    have hr := Option.some.inj h
    subst hr
    exact rrA (res_tmp h2) rfl
  refine .skip (.nbk (.nsq (rg (gm h3 fun h10 => g1 10 (ji (w64 (x_12 + 1))) h10 fun h11 => ?_))))
  refine gm h11 fun h3 => gq (.nlp ?_)
  exact Hc1 (w64 (x_12 + 1)) _ ⟨h1, h2, h3⟩ h
def s_l2Good_l1 (F : Nat) (x_1 : (Int × (List (Int × Int))))  : Nat → Int → Option Bool
  | 0, _ => none
  | k + 1, x_12 =>
    bif decide (x_12 < (x_1.2.length : Int)) then
      (idx x_1.2 x_12).bind fun e_23 =>
      (s_l1In F e_23.1 0 (w64 (x_1.1 - 1))).bind fun r_29 =>
      bif (!r_29) then
        s_l2Good_j1 F x_1 x_12 (s_l2Good_l1 F x_1 k) true
      else
        (s_l1In F e_23.2 0 (w64 (x_1.1 - 1))).bind fun r_30 =>
        bif (!r_30) then
          s_l2Good_j1 F x_1 x_12 (s_l2Good_l1 F x_1 k) true
        else
          bif decide (e_23.1 ≥ e_23.2) then
            s_l2Good_j1 F x_1 x_12 (s_l2Good_l1 F x_1 k) true
          else
            bif decide (x_12 > 0) then
              (idx x_1.2 (w64 (x_12 - 1))).bind fun e_31 =>
              (s_l2Before F e_31 e_23).bind fun r_32 =>
              s_l2Good_j1 F x_1 x_12 (s_l2Good_l1 F x_1 k) (!r_32)
            else
              s_l2Good_j1 F x_1 x_12 (s_l2Good_l1 F x_1 k) false
    else
      (s_l1In F x_1.1 0 8).bind fun r_33 =>
      some r_33
theorem t_f72_l1 (H : H72 D σ F) (x_1 : (Int × (List (Int × Int))))  : ∀ (k : Nat) (x_12 : Int) (s : Nat → V), Facts [(1, (.ref (.bx 1) 0 [] (.agg [(ji x_1.1), (Enc.enc (x_1.2 : List (Int × Int)))]))), (2, (jb false)), (3, (ji x_12))] s → s_l2Good_l1 F x_1 k x_12 = some r → Run D σ (R72 r) (.run A72_1 [.lp A72_1, .bk 0, .sq A72_7]) s := by
  intro k
  induction k with
  | zero => intro x_12 s _ h; exact nomatch (h : (none : Option _) = some r)
  | succ k ih =>
    intro x_12 s hs h
    rw [s_l2Good_l1] at h
    obtain ⟨h1, h2, h3⟩ := hs
    refine .seq (.seq (rg (gm h3 fun h5 => g1 1 (.ref (.bx 1) 0 [1] (Enc.enc (x_1.2 : List (Int × Int)))) h1 fun h6 => ?_)))
    refine g1 6 (Enc.enc (x_1.2 : List (Int × Int))) h6 fun h7 => ?_
    refine gv (ji (x_1.2.length : Int)) (ev_len (xs := x_1.2) h7) fun h8 => ?_
    refine g2 5 8 (jb (decide (x_12 < (x_1.2.length : Int)))) h5 h8 fun h9 => ?_
    refine gq (.nsq (run_cond (t := decide (x_12 < (x_1.2.length : Int))) h9 h (fun h => ?_) (fun h => ?_)))
    · refine .skip (.nsq (.seq (.block (.seq (run_reg ?_)))))
      refine e_clr ?_
      refine ez [(1, _), (2, _), (3, _), (4, _)] ⟨(keep_clear (pk := [4]) h1 rfl (map_bx rfl (map_agg (maps_cons mi (maps_cons me maps_nil))))), (keep_clear (pk := [4]) h2 rfl mb), (keep_clear (pk := [4]) h3 rfl mi), (gone_clear (pk := [4]) (t := 4) rfl)⟩ ?_
      rintro s ⟨h1, h2, h3, h4⟩
      refine g1 1 (.ref (.bx 1) 0 [1] (Enc.enc (x_1.2 : List (Int × Int)))) h1 fun h12 => ?_
      refine g1 12 (Enc.enc (x_1.2 : List (Int × Int))) h12 fun h13 => ?_
      refine gm h3 fun h14 => ?_
      obtain ⟨e_23, E_e_23, h⟩ := bind_some h
      refine gv (.ref .sh 0 [] (.agg [(ji e_23.1), (ji e_23.2)])) (ev_idx (t := .sh) (lo := 0) (xs := x_1.2) h13 h14 E_e_23 rfl rfl) fun h15 => ?_
      refine g1 15 (.agg [(ji e_23.1), (ji e_23.2)]) h15 fun h16 => ?_
      refine g_alloc h4 ?_
      refine g_store (.agg [(ji e_23.1), (ji e_23.2)]) (rd_of rfl rfl) (rd_of h16 rfl) (by refine ⟨by decide, by decide, rfl, rfl, rfl, ?_⟩; first | rfl | (simp [V.toks, V.tokss, Enc.toks_enc]; done) | simp [V.toks, V.tokss, Enc.toks_enc, tok_memP]) ?_
      refine gz [(1, (.ref (.bx 1) 0 [] (.agg [(ji x_1.1), (Enc.enc (x_1.2 : List (Int × Int)))]))), (2, (jb false)), (3, (ji x_12)), (4, (.ref (.bx 4) 0 [] (.agg [(ji e_23.1), (ji e_23.2)])))] ⟨(keep_mut h1 (mut_ref_ne rfl rfl (mut_agg (muts_cons rfl (muts_cons (Enc.mut_enc _ _ _ _ (x_1.2 : List (Int × Int))) rfl))))), (keep_mut h2 rfl), (keep_mut h3 rfl), (keep_mut rfl rfl)⟩ ?_
      rintro s ⟨h1, h2, h3, h4⟩
      refine .nsq (.seq (rg (g1 4 (.ref (.bx 4) 0 [0] (ji e_23.1)) h4 fun h17 => ?_)))
      refine g1 17 (ji e_23.1) h17 fun h18 => ?_
      refine g1 1 (.ref (.bx 1) 0 [0] (ji x_1.1)) h1 fun h19 => ?_
      refine g1 19 (ji x_1.1) h19 fun h20 => ?_
      refine g1 20 (ji (w64 (x_1.1 - 1))) h20 fun h21 => ?_
      obtain ⟨r_29, E_r_29, h⟩ := bind_some h
      refine g_call (m := 0) (al := false) (r := (Enc.enc (r_29 : Bool))) [Enc.enc (e_23.1 : Int), Enc.enc (0 : Int), Enc.enc (w64 (x_1.1 - 1) : Int)] (ta_cons (v := (ji e_23.1)) h18 rfl rfl (ta_cons (v := (ji 0)) rfl rfl rfl (ta_cons (v := (ji (w64 (x_1.1 - 1)))) h21 rfl rfl ta_nil))) (H.c103 _ _ _ _ E_r_29) H.g103 rfl rfl rfl rfl ?_
      refine g1 22 (jb (!r_29)) (rfl : (_ : V) = (jb r_29)) fun h23 => ?_
      refine gm h23 fun h24 => split_on (c := (!r_29)) h (fun hg8 h => ?_) (fun hg8 h => ?_)
      · refine g_no (h24.trans (congrArg V.bool hg8)) ?_
        refine g_no (h24.trans (congrArg V.bool hg8)) ?_
        refine g_no (h24.trans (congrArg V.bool hg8)) ?_
        refine g_no (h24.trans (congrArg V.bool hg8)) ?_
        refine g_no (h24.trans (congrArg V.bool hg8)) ?_
        refine g_no (h24.trans (congrArg V.bool hg8)) ?_
        refine g_no (h24.trans (congrArg V.bool hg8)) ?_
        refine g2 24 31 (jb true) (h24.trans (congrArg V.bool hg8)) (rfl : (_ : V) = (.tup [])) fun h32 => ?_
        refine gm h32 fun h33 => g_no h33 ?_
        refine g_no h33 ?_
        refine g_no h33 ?_
        refine g_no h33 ?_
        refine g_no h33 ?_
        refine g2 33 38 (jb true) h33 (rfl : (_ : V) = (.tup [])) fun h39 => ?_
        refine gm h39 fun h40 => g_no h40 ?_
        refine g_no h40 ?_
        refine g_no h40 ?_
        refine g_skip rfl ?_
        refine g_skip rfl ?_
        refine g_skip rfl ?_
        refine g_skip rfl ?_
        refine g_skip rfl ?_
        refine g_skip rfl ?_
        refine g_skip rfl ?_
        refine g_skip rfl ?_
        refine g_skip rfl ?_
        refine g_no h40 ?_
        refine g2 40 53 (jb true) h40 (rfl : (_ : V) = (.tup [])) fun h54 => ?_
        refine gz [(1, _), (2, _), (3, _), (54, _)] ⟨h1, h2, h3, h54⟩ ?_
        rintro s ⟨h1, h2, h3, h54⟩
        exact t_f72_j1 H x_1 x_12 (s_l2Good_l1 F x_1 k) ih true _ ⟨h1, h2, h3, h54⟩ h
      refine g_yes (h24.trans (congrArg V.bool hg8)) (g1 4 (.ref (.bx 4) 0 [1] (ji e_23.2)) h4 fun h25 => ?_)
      refine g_yes (h24.trans (congrArg V.bool hg8)) (g1 25 (ji e_23.2) h25 fun h26 => ?_)
      refine g_yes (h24.trans (congrArg V.bool hg8)) (g1 1 (.ref (.bx 1) 0 [0] (ji x_1.1)) h1 fun h27 => ?_)
      refine g_yes (h24.trans (congrArg V.bool hg8)) (g1 27 (ji x_1.1) h27 fun h28 => ?_)
      refine g_yes (h24.trans (congrArg V.bool hg8)) (g1 28 (ji (w64 (x_1.1 - 1))) h28 fun h29 => ?_)
      obtain ⟨r_30, E_r_30, h⟩ := bind_some h
      refine g_yes (h24.trans (congrArg V.bool hg8)) (g_call (m := 0) (al := false) (r := (Enc.enc (r_30 : Bool))) [Enc.enc (e_23.2 : Int), Enc.enc (0 : Int), Enc.enc (w64 (x_1.1 - 1) : Int)] (ta_cons (v := (ji e_23.2)) h26 rfl rfl (ta_cons (v := (ji 0)) rfl rfl rfl (ta_cons (v := (ji (w64 (x_1.1 - 1)))) h29 rfl rfl ta_nil))) (H.c103 _ _ _ _ E_r_30) H.g103 rfl rfl rfl rfl ?_)
      refine g_yes (h24.trans (congrArg V.bool hg8)) (g1 30 (jb (!r_30)) (rfl : (_ : V) = (jb r_30)) fun h31 => ?_)
      refine g2 24 31 (jb (!r_30)) (h24.trans (congrArg V.bool hg8)) h31 fun h32 => ?_
      refine gm h32 fun h33 => split_on (c := (!r_30)) h (fun hg17 h => ?_) (fun hg17 h => ?_)
      · refine g_no (h33.trans (congrArg V.bool hg17)) ?_
        refine g_no (h33.trans (congrArg V.bool hg17)) ?_
        refine g_no (h33.trans (congrArg V.bool hg17)) ?_
        refine g_no (h33.trans (congrArg V.bool hg17)) ?_
        refine g_no (h33.trans (congrArg V.bool hg17)) ?_
        refine g2 33 38 (jb true) (h33.trans (congrArg V.bool hg17)) (rfl : (_ : V) = (.tup [])) fun h39 => ?_
        refine gm h39 fun h40 => g_no h40 ?_
        refine g_no h40 ?_
        refine g_no h40 ?_
        refine g_skip rfl ?_
        refine g_skip rfl ?_
        refine g_skip rfl ?_
        refine g_skip rfl ?_
        refine g_skip rfl ?_
        refine g_skip rfl ?_
        refine g_skip rfl ?_
        refine g_skip rfl ?_
        refine g_skip rfl ?_
        refine g_no h40 ?_
        refine g2 40 53 (jb true) h40 (rfl : (_ : V) = (.tup [])) fun h54 => ?_
        refine gz [(1, _), (2, _), (3, _), (54, _)] ⟨h1, h2, h3, h54⟩ ?_
        rintro s ⟨h1, h2, h3, h54⟩
        exact t_f72_j1 H x_1 x_12 (s_l2Good_l1 F x_1 k) ih true _ ⟨h1, h2, h3, h54⟩ h
      refine g_yes (h33.trans (congrArg V.bool hg17)) (g1 4 (.ref (.bx 4) 0 [0] (ji e_23.1)) h4 fun h34 => ?_)
      refine g_yes (h33.trans (congrArg V.bool hg17)) (g1 34 (ji e_23.1) h34 fun h35 => ?_)
      refine g_yes (h33.trans (congrArg V.bool hg17)) (g1 4 (.ref (.bx 4) 0 [1] (ji e_23.2)) h4 fun h36 => ?_)
      refine g_yes (h33.trans (congrArg V.bool hg17)) (g1 36 (ji e_23.2) h36 fun h37 => ?_)
      refine g_yes (h33.trans (congrArg V.bool hg17)) (g2 35 37 (jb (decide (e_23.1 ≥ e_23.2))) h35 h37 fun h38 => ?_)
      refine g2 33 38 (jb (decide (e_23.1 ≥ e_23.2))) (h33.trans (congrArg V.bool hg17)) h38 fun h39 => ?_
      refine gm h39 fun h40 => split_on (c := decide (e_23.1 ≥ e_23.2)) h (fun hg24 h => ?_) (fun hg24 h => ?_)
      · refine g_no (h40.trans (congrArg V.bool hg24)) ?_
        refine g_no (h40.trans (congrArg V.bool hg24)) ?_
        refine g_no (h40.trans (congrArg V.bool hg24)) ?_
        refine g_skip rfl ?_
        refine g_skip rfl ?_
        refine g_skip rfl ?_
        refine g_skip rfl ?_
        refine g_skip rfl ?_
        refine g_skip rfl ?_
        refine g_skip rfl ?_
        refine g_skip rfl ?_
        refine g_skip rfl ?_
        refine g_no (h40.trans (congrArg V.bool hg24)) ?_
        refine g2 40 53 (jb true) (h40.trans (congrArg V.bool hg24)) (rfl : (_ : V) = (.tup [])) fun h54 => ?_
        refine gz [(1, _), (2, _), (3, _), (54, _)] ⟨h1, h2, h3, h54⟩ ?_
        rintro s ⟨h1, h2, h3, h54⟩
        exact t_f72_j1 H x_1 x_12 (s_l2Good_l1 F x_1 k) ih true _ ⟨h1, h2, h3, h54⟩ h
      refine g_yes (h40.trans (congrArg V.bool hg24)) (gm h3 fun h41 => ?_)
      refine g_yes (h40.trans (congrArg V.bool hg24)) (g1 41 (jb (decide (x_12 > 0))) h41 fun h42 => ?_)
      refine g_yes (h40.trans (congrArg V.bool hg24)) (gm h42 fun h43 => ?_)
      refine split_on (c := decide (x_12 > 0)) h (fun hg27 h => ?_) (fun hg27 h => ?_)
      · refine g_yes (h43.trans (congrArg V.bool hg27)) (g1 1 (.ref (.bx 1) 0 [1] (Enc.enc (x_1.2 : List (Int × Int)))) h1 fun h44 => ?_)
        refine g_yes (h43.trans (congrArg V.bool hg27)) (g1 44 (Enc.enc (x_1.2 : List (Int × Int))) h44 fun h45 => ?_)
        refine g_yes (h43.trans (congrArg V.bool hg27)) (gm h3 fun h46 => ?_)
        refine g_yes (h43.trans (congrArg V.bool hg27)) (g1 46 (ji (w64 (x_12 - 1))) h46 fun h47 => ?_)
        obtain ⟨e_31, E_e_31, h⟩ := bind_some h
        refine g_yes (h43.trans (congrArg V.bool hg27)) (gv (.ref .sh 0 [] (.agg [(ji e_31.1), (ji e_31.2)])) (ev_idx (t := .sh) (lo := 0) (xs := x_1.2) h45 h47 E_e_31 rfl rfl) fun h48 => ?_)
        refine g_yes (h43.trans (congrArg V.bool hg27)) (g1 48 (.agg [(ji e_31.1), (ji e_31.2)]) h48 fun h49 => ?_)
        refine g_yes (h43.trans (congrArg V.bool hg27)) (g1 4 (.agg [(ji e_23.1), (ji e_23.2)]) h4 fun h50 => ?_)
        obtain ⟨r_32, E_r_32, h⟩ := bind_some h
        refine g_yes (h43.trans (congrArg V.bool hg27)) (g_call (m := 0) (al := false) (r := (Enc.enc (r_32 : Bool))) [Enc.enc (e_31 : (Int × Int)), Enc.enc (e_23 : (Int × Int))] (ta_cons (v := (.agg [(ji e_31.1), (ji e_31.2)])) h49 rfl (Enc.erase_enc (e_31 : (Int × Int))) (ta_cons (v := (.agg [(ji e_23.1), (ji e_23.2)])) h50 rfl (Enc.erase_enc (e_23 : (Int × Int))) ta_nil)) (H.c130 _ _ _ E_r_32) H.g130 rfl rfl rfl rfl ?_)
        refine g_yes (h43.trans (congrArg V.bool hg27)) (g1 51 (jb (!r_32)) (rfl : (_ : V) = (jb r_32)) fun h52 => ?_)
        refine g_yes (h40.trans (congrArg V.bool hg24)) (g2 43 52 (jb (!r_32)) (h43.trans (congrArg V.bool hg27)) h52 fun h53 => ?_)
        refine g2 40 53 (jb (!r_32)) (h40.trans (congrArg V.bool hg24)) h53 fun h54 => ?_
        refine gz [(1, _), (2, _), (3, _), (54, _)] ⟨h1, h2, h3, h54⟩ ?_
        rintro s ⟨h1, h2, h3, h54⟩
        exact t_f72_j1 H x_1 x_12 (s_l2Good_l1 F x_1 k) ih (!r_32) _ ⟨h1, h2, h3, h54⟩ h
      refine g_no (h43.trans (congrArg V.bool hg27)) ?_
      refine g_no (h43.trans (congrArg V.bool hg27)) ?_
      refine g_no (h43.trans (congrArg V.bool hg27)) ?_
      refine g_no (h43.trans (congrArg V.bool hg27)) ?_
      refine g_no (h43.trans (congrArg V.bool hg27)) ?_
      refine g_no (h43.trans (congrArg V.bool hg27)) ?_
      refine g_no (h43.trans (congrArg V.bool hg27)) ?_
      refine g_no (h43.trans (congrArg V.bool hg27)) ?_
      refine g_no (h43.trans (congrArg V.bool hg27)) ?_
      refine g_yes (h40.trans (congrArg V.bool hg24)) (g2 43 52 (jb false) (h43.trans (congrArg V.bool hg27)) (rfl : (_ : V) = (.tup [])) fun h53 => ?_)
      refine g2 40 53 (jb false) (h40.trans (congrArg V.bool hg24)) h53 fun h54 => ?_
      refine gz [(1, _), (2, _), (3, _), (54, _)] ⟨h1, h2, h3, h54⟩ ?_
      rintro s ⟨h1, h2, h3, h54⟩
      exact t_f72_j1 H x_1 x_12 (s_l2Good_l1 F x_1 k) ih false _ ⟨h1, h2, h3, h54⟩ h
    refine .exit (.esq (.elp (.ebk (.nsq (.seq (rg (g1 1 (.ref (.bx 1) 0 [0] (ji x_1.1)) h1 fun h55 => ?_)))))))
    refine g1 55 (ji x_1.1) h55 fun h56 => ?_
    obtain ⟨r_33, E_r_33, h⟩ := bind_some h
    refine g_call (m := 0) (al := false) (r := (Enc.enc (r_33 : Bool))) [Enc.enc (x_1.1 : Int), Enc.enc (0 : Int), Enc.enc (8 : Int)] (ta_cons (v := (ji x_1.1)) h56 rfl rfl (ta_cons (v := (ji 0)) rfl rfl rfl (ta_cons (v := (ji 8)) rfl rfl rfl ta_nil))) (H.c103 _ _ _ _ E_r_33) H.g103 rfl rfl rfl rfl ?_
    refine gm (rfl : (_ : V) = (jb r_33)) fun h2 => ?_
    refine gq (.nsq (.ret ?_))
    have hr := Option.some.inj h
    subst hr
    exact rrA (res_tmp h2) rfl
def s_l2Good (F : Nat) (x_1 : (Int × (List (Int × Int)))) : Option Bool :=
  s_l2Good_l1 F x_1 F 0
theorem t72 (H : H72 D σ F) (x_1 : (Int × (List (Int × Int)))) (s : Nat → V) (hs : Facts [(0, (.agg [(ji x_1.1), (Enc.enc (x_1.2 : List (Int × Int)))]))] s) (h : s_l2Good F x_1 = some r) : Run D σ (R72 r) (.run A72 []) s := by
  unfold s_l2Good at h
  have h0 := hs
  refine .seq (run_reg ?_)
  refine e_clr ?_
  refine ez [(0, _), (1, _)] ⟨(keep_clear (pk := [1]) h0 rfl (map_agg (maps_cons mi (maps_cons me maps_nil)))), (gone_clear (pk := [1]) (t := 1) rfl)⟩ ?_
  rintro s ⟨h0, h1⟩
  refine g_box (.agg [(ji x_1.1), (Enc.enc (x_1.2 : List (Int × Int)))]) (rd_of h0 rfl) h1 rfl ?_
  refine g0 (jb false) fun h2 => ?_
  refine gq (.nsq (.seq (.seq (rg (g0 (ji 0) fun h3 => gq (.nsq (.block (.loop ?_))))))))
  exact t_f72_l1 H x_1 F 0 _ ⟨rfl, h2, h3⟩ h
end
def e72 (F : Nat) : Ent := ent 72 (fun (x : ((Int × (List (Int × Int))) × Unit)) => s_l2Good F x.1) (fun (r : Bool) => (Enc.enc (r : Bool))) 0 false []
theorem p72 {F : Nat} {x0 : (Int × (List (Int × Int)))} {r : Bool} (h : s_l2Good F x0 = some r) : (e72 F).den [Enc.enc x0] = some (Enc.enc (r : Bool)) := ent_put (x0, ()) h
theorem o72 {D : Den} {σ : Sig} {F : Nat} (hF : Fits2 Try.prog D σ) (H : H72 D σ F) : (e72 F).Ok Try.prog := by
  refine ok_of (f := 72) (show unk 72 = 72 from rfl) (fun args r h => ?_) ⟨Try.f72, Try.func72, rfl, rfl⟩
  obtain ⟨⟨x0, _⟩, y, rfl, hy, rfl⟩ := da_open h
  exact contract_run hF (by kernel_rfl) Try.func72 rfl c72 (show 1 ≤ Try.f72.ntmps by decide) (t72 H x0 _ rfl hy)
/- loop.example/g01109/spec.l1Has -/
def A74_2 : AC := (.cond (.t 9) .skip (.exit 0))
def A74_4 : AC := (.cond (.t 17) (.seq (.reg [] [((jv 4 (.mov (.k (.bool true)))))] []) .ret) .skip)
def A74_5 : AC := (.reg [] [(jm 10 5), ((jv 11 (.bin .add (.t 10) (jn 1)))), (jm 5 11)] [])
def A74_3 : AC := (.seq (.block 1 (.seq (.reg [] [(jm 12 0), (jm 13 5), ((jv 14 (.idx (.t 12) (.t 13) 1))), ((jv 15 (.load .s (.t 14)))), (jm 16 1), ((jv 17 (.bin .eql (.t 15) (.t 16))))] []) A74_4)) A74_5)
def A74_1 : AC := (.seq (.seq (.reg [] [(jm 6 5), (jm 7 0), ((jv 8 (.len (.t 7)))), ((jv 9 (.bin .lss (.t 6) (.t 8))))] []) A74_2) A74_3)
def A74_6 : AC := (.seq (.reg [] [((jv 4 (.mov (.k (.bool false)))))] []) .ret)
def A74_8 : AC := (.block 0 (.loop A74_1))
def A74_7 : AC := (.seq (.seq (.reg [] [((jv 5 (.mov (jn 0))))] []) A74_8) A74_6)
def A74 : AC := (.seq (.reg [] [((jv 4 (.mov (.k (.bool false)))))] []) A74_7)
def an74 : List An := []
theorem c74 : cC Try.prog Try.f74.ntmps an74 (Try.f74.body.getD .skip) = some A74 := by kernel_rfl
structure H74 (D : Den) (σ : Sig) (F : Nat) : Prop where
  mk ::
abbrev R74 (r : Bool) : (Nat → V) → Prop := RR Try.prog [.tmp 4] 0 false (Enc.enc (r : Bool))
section
variable {D : Den} {σ : Sig} {F : Nat} {r : Bool}
def s_l1Has_l1 (F : Nat) (x_1 : (List Int)) (x_2 : Int)  : Nat → Int → Option Bool
  | 0, _ => none
  | k + 1, x_4 =>
    bif decide (x_4 < (x_1.length : Int)) then
      (idx x_1 x_4).bind fun e_6 =>
      bif (e_6 == x_2) then
        some true
      else
        (s_l1Has_l1 F x_1 x_2 k) (w64 (x_4 + 1))
    else
      some false
theorem t_f74_l1 (H : H74 D σ F) (x_1 : (List Int)) (x_2 : Int)  : ∀ (k : Nat) (x_4 : Int) (s : Nat → V), Facts [(0, (eL x_1)), (1, (ji x_2)), (4, (jb false)), (5, (ji x_4))] s → s_l1Has_l1 F x_1 x_2 k x_4 = some r → Run D σ (R74 r) (.run A74_1 [.lp A74_1, .bk 0, .sq A74_6]) s := by
  intro k
  induction k with
  | zero => intro x_4 s _ h; exact nomatch (h : (none : Option _) = some r)
  | succ k ih =>
    intro x_4 s hs h
    rw [s_l1Has_l1] at h
    obtain ⟨h0, h1, h4, h5⟩ := hs
    refine .seq (.seq (rg (gm h5 fun h6 => gm h0 fun h7 => gv (ji (x_1.length : Int)) (ev_len (xs := x_1) h7) fun h8 => ?_)))
    refine g2 6 8 (jb (decide (x_4 < (x_1.length : Int)))) h6 h8 fun h9 => ?_
    refine gq (.nsq (run_cond (t := decide (x_4 < (x_1.length : Int))) h9 h (fun h => ?_) (fun h => ?_)))
    · refine .skip (.nsq (.seq (.block (.seq (rg (gm h0 fun h12 => gm h5 fun h13 => ?_))))))
      obtain ⟨e_6, E_e_6, h⟩ := bind_some h
      refine gv (.ref .sh 0 [] (ji e_6)) (ev_idx (t := .sh) (lo := 0) (xs := x_1) h12 h13 E_e_6 rfl rfl) fun h14 => ?_
      refine g1 14 (ji e_6) h14 fun h15 => ?_
      refine gm h1 fun h16 => g2 15 16 (jb (e_6 == x_2)) h15 h16 fun h17 => ?_
      refine gq (.nsq (run_cond (t := (e_6 == x_2)) h17 h (fun h => ?_) (fun h => ?_)))
      · refine .seq (rg (g0 (jb true) fun h4 => ?_))
        refine gq (.nsq (.ret ?_))
        have hr := Option.some.inj h
        subst hr
        exact rrA (res_tmp h4) rfl
      refine .skip (.nbk (.nsq (rg (gm h5 fun h10 => g1 10 (ji (w64 (x_4 + 1))) h10 fun h11 => ?_))))
      refine gm h11 fun h5 => gq (.nlp ?_)
      exact ih (w64 (x_4 + 1)) _ ⟨h0, h1, h4, h5⟩ h
    refine .exit (.esq (.elp (.ebk (.nsq (.seq (rg (g0 (jb false) fun h4 => ?_)))))))
    refine gq (.nsq (.ret ?_))
    have hr := Option.some.inj h
    subst hr
    exact rrA (res_tmp h4) rfl
def s_l1Has (F : Nat) (x_1 : (List Int)) (x_2 : Int) : Option Bool :=
  s_l1Has_l1 F x_1 x_2 F 0
theorem t74 (H : H74 D σ F) (x_1 : (List Int)) (x_2 : Int) (s : Nat → V) (hs : Facts [(0, (eL x_1)), (1, (ji x_2))] s) (h : s_l1Has F x_1 x_2 = some r) : Run D σ (R74 r) (.run A74 []) s := by
  unfold s_l1Has at h
  obtain ⟨h0, h1⟩ := hs
  refine .seq (rg (g0 (jb false) fun h4 => ?_))
  refine gq (.nsq (.seq (.seq (rg (g0 (ji 0) fun h5 => gq (.nsq (.block (.loop ?_))))))))
  exact t_f74_l1 H x_1 x_2 F 0 _ ⟨h0, h1, h4, h5⟩ h
end
def e74 (F : Nat) : Ent := ent 74 (fun (x : ((List Int) × Int × Unit)) => s_l1Has F x.1 x.2.1) (fun (r : Bool) => (Enc.enc (r : Bool))) 0 false []
theorem p74 {F : Nat} {x0 : (List Int)} {x1 : Int} {r : Bool} (h : s_l1Has F x0 x1 = some r) : (e74 F).den [Enc.enc x0, Enc.enc x1] = some (Enc.enc (r : Bool)) := ent_put (x0, x1, ()) h
theorem o74 {D : Den} {σ : Sig} {F : Nat} (hF : Fits2 Try.prog D σ) (H : H74 D σ F) : (e74 F).Ok Try.prog := by
  refine ok_of (f := 74) (show unk 74 = 74 from rfl) (fun args r h => ?_) ⟨Try.f74, Try.func74, rfl, rfl⟩
  obtain ⟨⟨x0, x1, _⟩, y, rfl, hy, rfl⟩ := da_open h
  exact contract_run hF (by kernel_rfl) Try.func74 rfl c74 (show 2 ≤ Try.f74.ntmps by decide) (t74 H x0 x1 _ ⟨rfl, rfl⟩ hy)
/- loop.example/g01109/spec.l2Each -/
def A119_2 : AC := (.cond (.t 9) .skip (.exit 0))
def A119_4 : AC := (.cond (.t 15) (.seq (.reg [] [((jv 4 (.mov (.k (.bool false)))))] []) .ret) .skip)
def A119_5 : AC := (.reg [] [(jm 10 5), ((jv 11 (.bin .add (.t 10) (jn 1)))), (jm 5 11)] [])
def A119_3 : AC := (.seq (.block 1 (.seq (.reg [] [(jm 12 1), (jm 13 5), (.mk (some 14) none false (.call (.k (.fn 74 [] [])) [(.t 12), (.t 13)])), ((jv 15 (.un .not (.t 14))))] []) A119_4)) A119_5)
def A119_1 : AC := (.seq (.seq (.reg [] [(jm 6 5), ((jv 7 (.fld (.t 2) 0 0))), ((jv 8 (.load .s (.t 7)))), ((jv 9 (.bin .lss (.t 6) (.t 8))))] []) A119_2) A119_3)
def A119_6 : AC := (.seq (.reg [] [(jm 16 1), ((jv 17 (.len (.t 16)))), ((jv 18 (.fld (.t 2) 0 0))), ((jv 19 (.load .s (.t 18)))), ((jv 20 (.bin .eql (.t 17) (.t 19)))), (jm 4 20)] []) .ret)
def A119_8 : AC := (.block 0 (.loop A119_1))
def A119_7 : AC := (.seq (.seq (.reg [] [((jv 5 (.mov (jn 0))))] []) A119_8) A119_6)
def A119 : AC := (.seq (.reg [.clr [2]] [(.mk (some 2) none false (.box (.t 0))), ((jv 4 (.mov (.k (.bool false)))))] []) A119_7)
def an119 : List An := [{ id := 0, pre := [.clr [2]], ep := [], lin := [], sp := [] }]
theorem c119 : cC Try.prog Try.f119.ntmps an119 (Try.f119.body.getD .skip) = some A119 := by kernel_rfl
structure H119 (D : Den) (σ : Sig) (F : Nat) : Prop where
  c74 : ∀ (x0 : (List Int)) (x1 : Int) r, s_l1Has F x0 x1 = some r → D 74 [Enc.enc x0, Enc.enc x1] = some (Enc.enc (r : Bool))
  g74 : σ 74 = some (0, false)
abbrev R119 (r : Bool) : (Nat → V) → Prop := RR Try.prog [.tmp 4] 0 false (Enc.enc (r : Bool))
section
variable {D : Den} {σ : Sig} {F : Nat} {r : Bool}
def s_l2Each_l1 (F : Nat) (x_2 : (List Int)) (x_1 : (Int × (List (Int × Int))))  : Nat → Int → Option Bool
  | 0, _ => none
  | k + 1, x_4 =>
    bif decide (x_4 < x_1.1) then
      (s_l1Has F x_2 x_4).bind fun r_6 =>
      bif (!r_6) then
        some false
      else
        (s_l2Each_l1 F x_2 x_1 k) (w64 (x_4 + 1))
    else
      some ((x_2.length : Int) == x_1.1)
theorem t_f119_l1 (H : H119 D σ F) (x_2 : (List Int)) (x_1 : (Int × (List (Int × Int))))  : ∀ (k : Nat) (x_4 : Int) (s : Nat → V), Facts [(1, (eL x_2)), (2, (.ref (.bx 2) 0 [] (.agg [(ji x_1.1), (Enc.enc (x_1.2 : List (Int × Int)))]))), (4, (jb false)), (5, (ji x_4))] s → s_l2Each_l1 F x_2 x_1 k x_4 = some r → Run D σ (R119 r) (.run A119_1 [.lp A119_1, .bk 0, .sq A119_6]) s := by
  intro k
  induction k with
  | zero => intro x_4 s _ h; exact nomatch (h : (none : Option _) = some r)
  | succ k ih =>
    intro x_4 s hs h
    rw [s_l2Each_l1] at h
    obtain ⟨h1, h2, h4, h5⟩ := hs
    refine .seq (.seq (rg (gm h5 fun h6 => g1 2 (.ref (.bx 2) 0 [0] (ji x_1.1)) h2 fun h7 => ?_)))
    refine g1 7 (ji x_1.1) h7 fun h8 => ?_
    refine g2 6 8 (jb (decide (x_4 < x_1.1))) h6 h8 fun h9 => ?_
    refine gq (.nsq (run_cond (t := decide (x_4 < x_1.1)) h9 h (fun h => ?_) (fun h => ?_)))
    · refine .skip (.nsq (.seq (.block (.seq (rg (gm h1 fun h12 => gm h5 fun h13 => ?_))))))
      obtain ⟨r_6, E_r_6, h⟩ := bind_some h
      refine g_call (m := 0) (al := false) (r := (Enc.enc (r_6 : Bool))) [Enc.enc (x_2 : (List Int)), Enc.enc (x_4 : Int)] (ta_cons (v := (eL x_2)) h12 rfl (Enc.erase_enc (x_2 : (List Int))) (ta_cons (v := (ji x_4)) h13 rfl rfl ta_nil)) (H.c74 _ _ _ E_r_6) H.g74 rfl rfl rfl rfl ?_
      refine g1 14 (jb (!r_6)) (rfl : (_ : V) = (jb r_6)) fun h15 => ?_
      refine gq (.nsq (run_cond (t := (!r_6)) h15 h (fun h => ?_) (fun h => ?_)))
      · refine .seq (rg (g0 (jb false) fun h4 => ?_))
        refine gq (.nsq (.ret ?_))
        have hr := Option.some.inj h
        subst hr
        exact rrA (res_tmp h4) rfl
      refine .skip (.nbk (.nsq (rg (gm h5 fun h10 => g1 10 (ji (w64 (x_4 + 1))) h10 fun h11 => ?_))))
      refine gm h11 fun h5 => gq (.nlp ?_)
      exact ih (w64 (x_4 + 1)) _ ⟨h1, h2, h4, h5⟩ h
    refine .exit (.esq (.elp (.ebk (.nsq (.seq (rg (gm h1 fun h16 => gv (ji (x_2.length : Int)) (ev_len (xs := x_2) h16) fun h17 => ?_)))))))
    refine g1 2 (.ref (.bx 2) 0 [0] (ji x_1.1)) h2 fun h18 => ?_
    refine g1 18 (ji x_1.1) h18 fun h19 => ?_
    refine g2 17 19 (jb ((x_2.length : Int) == x_1.1)) h17 h19 fun h20 => ?_
    refine gm h20 fun h4 => gq (.nsq (.ret ?_))
    have hr := Option.some.inj h
    subst hr
    exact rrA (res_tmp h4) rfl
def s_l2Each (F : Nat) (x_1 : (Int × (List (Int × Int)))) (x_2 : (List Int)) : Option Bool :=
  s_l2Each_l1 F x_2 x_1 F 0
theorem t119 (H : H119 D σ F) (x_1 : (Int × (List (Int × Int)))) (x_2 : (List Int)) (s : Nat → V) (hs : Facts [(0, (.agg [(ji x_1.1), (Enc.enc (x_1.2 : List (Int × Int)))])), (1, (eL x_2))] s) (h : s_l2Each F x_1 x_2 = some r) : Run D σ (R119 r) (.run A119 []) s := by
  unfold s_l2Each at h
  obtain ⟨h0, h1⟩ := hs
  refine .seq (run_reg ?_)
  refine e_clr ?_
  refine ez [(0, _), (1, _), (2, _)] ⟨(keep_clear (pk := [2]) h0 rfl (map_agg (maps_cons mi (maps_cons me maps_nil)))), (keep_clear (pk := [2]) h1 rfl me), (gone_clear (pk := [2]) (t := 2) rfl)⟩ ?_
  rintro s ⟨h0, h1, h2⟩
  refine g_box (.agg [(ji x_1.1), (Enc.enc (x_1.2 : List (Int × Int)))]) (rd_of h0 rfl) h2 rfl ?_
  refine g0 (jb false) fun h4 => ?_
  refine gq (.nsq (.seq (.seq (rg (g0 (ji 0) fun h5 => gq (.nsq (.block (.loop ?_))))))))
  exact t_f119_l1 H x_2 x_1 F 0 _ ⟨h1, rfl, h4, h5⟩ h
end
def e119 (F : Nat) : Ent := ent 119 (fun (x : ((Int × (List (Int × Int))) × (List Int) × Unit)) => s_l2Each F x.1 x.2.1) (fun (r : Bool) => (Enc.enc (r : Bool))) 0 false []
theorem p119 {F : Nat} {x0 : (Int × (List (Int × Int)))} {x1 : (List Int)} {r : Bool} (h : s_l2Each F x0 x1 = some r) : (e119 F).den [Enc.enc x0, Enc.enc x1] = some (Enc.enc (r : Bool)) := ent_put (x0, x1, ()) h
theorem o119 {D : Den} {σ : Sig} {F : Nat} (hF : Fits2 Try.prog D σ) (H : H119 D σ F) : (e119 F).Ok Try.prog := by
  refine ok_of (f := 119) (show unk 119 = 119 from rfl) (fun args r h => ?_) ⟨Try.f119, Try.func119, rfl, rfl⟩
  obtain ⟨⟨x0, x1, _⟩, y, rfl, hy, rfl⟩ := da_open h
  exact contract_run hF (by kernel_rfl) Try.func119 rfl c119 (show 2 ≤ Try.f119.ntmps by decide) (t119 H x0 x1 _ ⟨rfl, rfl⟩ hy)
/- loop.example/g01109/spec.l5Order -/
def A60_1 : AC := (.seq (.reg [] [((jv 5 (.load (.ag [.s, .p]) (.t 2)))), (.mk (some 6) none false (.call (.k (.fn 72 [] [])) [(.t 5)])), (jm 7 6), ((jg 8 7 true (.load (.ag [.s, .p]) (.t 2)))), ((jg 9 7 true (.mov (.t 1)))), (.mk (some 10) (some (7, true)) false (.call (.k (.fn 119 [] [])) [(.t 8), (.t 9)])), ((jv 11 (.pick (.t 7) (.t 10) (.k (.bool false))))), (jm 4 11)] []) .ret)
def A60 : AC := (.seq (.reg [.clr [2]] [(.mk (some 2) none false (.box (.t 0))), ((jv 4 (.mov (.k (.bool false)))))] []) A60_1)
def an60 : List An := [{ id := 0, pre := [.clr [2]], ep := [], lin := [], sp := [] }]
theorem c60 : cC Try.prog Try.f60.ntmps an60 (Try.f60.body.getD .skip) = some A60 := by kernel_rfl
structure H60 (D : Den) (σ : Sig) (F : Nat) : Prop where
  c72 : ∀ (x0 : (Int × (List (Int × Int)))) r, s_l2Good F x0 = some r → D 72 [Enc.enc x0] = some (Enc.enc (r : Bool))
  g72 : σ 72 = some (0, false)
  c119 : ∀ (x0 : (Int × (List (Int × Int)))) (x1 : (List Int)) r, s_l2Each F x0 x1 = some r → D 119 [Enc.enc x0, Enc.enc x1] = some (Enc.enc (r : Bool))
  g119 : σ 119 = some (0, false)
abbrev R60 (r : Bool) : (Nat → V) → Prop := RR Try.prog [.tmp 4] 0 false (Enc.enc (r : Bool))
section
variable {D : Den} {σ : Sig} {F : Nat} {r : Bool}
def s_l5Order (F : Nat) (x_1 : (Int × (List (Int × Int)))) (x_2 : (List Int)) : Option Bool :=
  (s_l2Good F x_1).bind fun r_3 =>
  bif r_3 then
    (s_l2Each F x_1 x_2).bind fun r_4 =>
    some r_4
  else
    some false
theorem t60 (H : H60 D σ F) (x_1 : (Int × (List (Int × Int)))) (x_2 : (List Int)) (s : Nat → V) (hs : Facts [(0, (.agg [(ji x_1.1), (Enc.enc (x_1.2 : List (Int × Int)))])), (1, (eL x_2))] s) (h : s_l5Order F x_1 x_2 = some r) : Run D σ (R60 r) (.run A60 []) s := by
  unfold s_l5Order at h
  obtain ⟨h0, h1⟩ := hs
  refine .seq (run_reg ?_)
  refine e_clr ?_
  refine ez [(0, _), (1, _), (2, _)] ⟨(keep_clear (pk := [2]) h0 rfl (map_agg (maps_cons mi (maps_cons me maps_nil)))), (keep_clear (pk := [2]) h1 rfl me), (gone_clear (pk := [2]) (t := 2) rfl)⟩ ?_
  rintro s ⟨h0, h1, h2⟩
  refine g_box (.agg [(ji x_1.1), (Enc.enc (x_1.2 : List (Int × Int)))]) (rd_of h0 rfl) h2 rfl ?_
  refine g0 (jb false) fun h4 => ?_
  refine gq (.nsq (.seq (rg (g1 2 (.agg [(ji x_1.1), (Enc.enc (x_1.2 : List (Int × Int)))]) (rfl : (_ : V) = (.ref (.bx 2) 0 [] (.agg [(ji x_1.1), (Enc.enc (x_1.2 : List (Int × Int)))]))) fun h5 => ?_))))
  obtain ⟨r_3, E_r_3, h⟩ := bind_some h
  refine g_call (m := 0) (al := false) (r := (Enc.enc (r_3 : Bool))) [Enc.enc (x_1 : (Int × (List (Int × Int))))] (ta_cons (v := (.agg [(ji x_1.1), (Enc.enc (x_1.2 : List (Int × Int)))])) h5 rfl (Enc.erase_enc (x_1 : (Int × (List (Int × Int))))) ta_nil) (H.c72 _ _ E_r_3) H.g72 rfl rfl rfl rfl ?_
  refine gm (rfl : (_ : V) = (jb r_3)) fun h7 => ?_
  refine split_on (c := r_3) h (fun hg3 h => ?_) (fun hg3 h => ?_)
  · refine g_yes (h7.trans (congrArg V.bool hg3)) (g1 2 (.agg [(ji x_1.1), (Enc.enc (x_1.2 : List (Int × Int)))]) (rfl : (_ : V) = (.ref (.bx 2) 0 [] (.agg [(ji x_1.1), (Enc.enc (x_1.2 : List (Int × Int)))]))) fun h8 => ?_)
    refine g_yes (h7.trans (congrArg V.bool hg3)) (gm h1 fun h9 => ?_)
    obtain ⟨r_4, E_r_4, h⟩ := bind_some h
    refine g_yes (h7.trans (congrArg V.bool hg3)) (g_call (m := 0) (al := false) (r := (Enc.enc (r_4 : Bool))) [Enc.enc (x_1 : (Int × (List (Int × Int)))), Enc.enc (x_2 : (List Int))] (ta_cons (v := (.agg [(ji x_1.1), (Enc.enc (x_1.2 : List (Int × Int)))])) h8 rfl (Enc.erase_enc (x_1 : (Int × (List (Int × Int))))) (ta_cons (v := (eL x_2)) h9 rfl (Enc.erase_enc (x_2 : (List Int))) ta_nil)) (H.c119 _ _ _ E_r_4) H.g119 rfl rfl rfl rfl ?_)
    refine g2 7 10 (jb r_4) (h7.trans (congrArg V.bool hg3)) (rfl : (_ : V) = (jb r_4)) fun h11 => ?_
    refine gm h11 fun h4 => gq (.nsq (.ret ?_))
    have hr := Option.some.inj h
    subst hr
    exact rrA (res_tmp h4) rfl
  refine g_no (h7.trans (congrArg V.bool hg3)) ?_
  refine g_no (h7.trans (congrArg V.bool hg3)) ?_
  refine g_no (h7.trans (congrArg V.bool hg3)) ?_
  refine g2 7 10 (jb false) (h7.trans (congrArg V.bool hg3)) (rfl : (_ : V) = (.tup [])) fun h11 => ?_
  refine gm h11 fun h4 => gq (.nsq (.ret ?_))
  have hr := Option.some.inj h
  subst hr
  exact rrA (res_tmp h4) rfl
end
def e60 (F : Nat) : Ent := ent 60 (fun (x : ((Int × (List (Int × Int))) × (List Int) × Unit)) => s_l5Order F x.1 x.2.1) (fun (r : Bool) => (Enc.enc (r : Bool))) 0 false []
theorem p60 {F : Nat} {x0 : (Int × (List (Int × Int)))} {x1 : (List Int)} {r : Bool} (h : s_l5Order F x0 x1 = some r) : (e60 F).den [Enc.enc x0, Enc.enc x1] = some (Enc.enc (r : Bool)) := ent_put (x0, x1, ()) h
theorem o60 {D : Den} {σ : Sig} {F : Nat} (hF : Fits2 Try.prog D σ) (H : H60 D σ F) : (e60 F).Ok Try.prog := by
  refine ok_of (f := 60) (show unk 60 = 60 from rfl) (fun args r h => ?_) ⟨Try.f60, Try.func60, rfl, rfl⟩
  obtain ⟨⟨x0, x1, _⟩, y, rfl, hy, rfl⟩ := da_open h
  exact contract_run hF (by kernel_rfl) Try.func60 rfl c60 (show 2 ≤ Try.f60.ntmps by decide) (t60 H x0 x1 _ ⟨rfl, rfl⟩ hy)
/- loop.example/g01109/spec.l2Near -/
def A145_2 : AC := (.cond (.t 13) .skip (.exit 0))
def A145_5 : AC := (.cond (.t 42) (.seq (.reg [] [((jv 6 (.mov (.k (.bool true)))))] []) .ret) .skip)
def A145_4 : AC := (.seq (.reg [] [((jv 21 (.idxA (.t 8) (jn 0) 2 1))), ((jv 22 (.load .s (.t 21)))), (jm 23 1), ((jv 24 (.bin .eql (.t 22) (.t 23)))), (jm 25 24), ((jg 26 25 true (.idxA (.t 8) (jn 1) 2 1))), ((jg 27 25 true (.load .s (.t 26)))), ((jg 28 25 true (.mov (.t 2)))), ((jg 29 25 true (.bin .eql (.t 27) (.t 28)))), ((jv 30 (.pick (.t 25) (.t 29) (.k (.bool false))))), (jm 31 30), ((jg 32 31 false (.idxA (.t 8) (jn 0) 2 1))), ((jg 33 31 false (.load .s (.t 32)))), ((jg 34 31 false (.mov (.t 2)))), ((jg 35 31 false (.bin .eql (.t 33) (.t 34)))), ((jg 36 31 false (.mov (.t 35)))), ((jg 37 36 true (.idxA (.t 8) (jn 1) 2 1))), ((jg 38 36 true (.load .s (.t 37)))), ((jg 39 36 true (.mov (.t 1)))), ((jg 40 36 true (.bin .eql (.t 38) (.t 39)))), ((jg 41 31 false (.pick (.t 36) (.t 40) (.k (.bool false))))), ((jv 42 (.pick (.t 31) (.k (.bool true)) (.t 41))))] []) A145_5)
def A145_6 : AC := (.reg [] [(jm 14 7), ((jv 15 (.bin .add (.t 14) (jn 1)))), (jm 7 15)] [])
def A145_3 : AC := (.seq (.block 1 (.seq (.reg [.clr [8]] [((jv 16 (.fld (.t 3) 1 1))), ((jv 17 (.load .p (.t 16)))), (jm 18 7), ((jv 19 (.idx (.t 17) (.t 18) 2))), ((jv 20 (.load (.ag [.s, .s]) (.t 19)))), (.mk (some 8) none false (.alloc (.agg [(.int .i64 (.ofNat 0)), (.int .i64 (.ofNat 0))]))), (.mk none none false (.store (.ag [.s, .s]) (.t 8) (.t 20)))] []) A145_4)) A145_6)
def A145_1 : AC := (.seq (.seq (.reg [] [(jm 9 7), ((jv 10 (.fld (.t 3) 1 1))), ((jv 11 (.load .p (.t 10)))), ((jv 12 (.len (.t 11)))), ((jv 13 (.bin .lss (.t 9) (.t 12))))] []) A145_2) A145_3)
def A145_7 : AC := (.seq (.reg [] [((jv 6 (.mov (.k (.bool false)))))] []) .ret)
def A145_9 : AC := (.block 0 (.loop A145_1))
def A145_8 : AC := (.seq (.seq (.reg [] [((jv 7 (.mov (jn 0))))] []) A145_9) A145_7)
def A145 : AC := (.seq (.reg [.clr [3]] [(.mk (some 3) none false (.box (.t 0))), ((jv 6 (.mov (.k (.bool false)))))] []) A145_8)
def an145 : List An := [{ id := 0, pre := [.clr [3]], ep := [], lin := [], sp := [] }, { id := 4, pre := [.clr [8]], ep := [], lin := [], sp := [] }]
theorem c145 : cC Try.prog Try.f145.ntmps an145 (Try.f145.body.getD .skip) = some A145 := by kernel_rfl
structure H145 (D : Den) (σ : Sig) (F : Nat) : Prop where
  mk ::
abbrev R145 (r : Bool) : (Nat → V) → Prop := RR Try.prog [.tmp 6] 0 false (Enc.enc (r : Bool))
section
variable {D : Den} {σ : Sig} {F : Nat} {r : Bool}
def s_l2Near_j1 (F : Nat) (x_2 : Int) (x_3 : Int) (x_1 : (Int × (List (Int × Int)))) (x_6 : Int) (c1 : Int → Option Bool) (x_10 : Bool) : Option Bool :=
  bif x_10 then
    some true
  else
    c1 (w64 (x_6 + 1))
theorem t_f145_j1 (H : H145 D σ F) (x_2 : Int) (x_3 : Int) (x_1 : (Int × (List (Int × Int)))) (x_6 : Int) (c1 : Int → Option Bool) (Hc1 : ∀ (x_6 : Int) (s : Nat → V), Facts [(1, (ji x_2)), (2, (ji x_3)), (3, (.ref (.bx 3) 0 [] (.agg [(ji x_1.1), (Enc.enc (x_1.2 : List (Int × Int)))]))), (6, (jb false)), (7, (ji x_6))] s → c1 x_6 = some r → Run D σ (R145 r) (.run A145_1 [.lp A145_1, .bk 0, .sq A145_7]) s) (x_10 : Bool) (s : Nat → V) (hs : Facts [(1, (ji x_2)), (2, (ji x_3)), (3, (.ref (.bx 3) 0 [] (.agg [(ji x_1.1), (Enc.enc (x_1.2 : List (Int × Int)))]))), (6, (jb false)), (7, (ji x_6)), (42, (jb x_10))] s) (h : s_l2Near_j1 F x_2 x_3 x_1 x_6 c1 x_10 = some r) : Run D σ (R145 r) (.nrm [.sq A145_5, .bk 1, .sq A145_6, .lp A145_1, .bk 0, .sq A145_7]) s := by
  unfold s_l2Near_j1 at h
  obtain ⟨h1, h2, h3, h6, h7, h42⟩ := hs
  refine .nsq (run_cond (t := x_10) h42 h (fun h => ?_) (fun h => ?_))
  · refine .seq (rg (g0 (jb true) fun h6 => ?_))
    refine gq (.nsq (.ret ?_))
    have hr := Option.some.inj h
    subst hr
    exact rrA (res_tmp h6) rfl
  refine .skip (.nbk (.nsq (rg (gm h7 fun h14 => g1 14 (ji (w64 (x_6 + 1))) h14 fun h15 => ?_))))
  refine gm h15 fun h7 => gq (.nlp ?_)
  exact Hc1 (w64 (x_6 + 1)) _ ⟨h1, h2, h3, h6, h7⟩ h
def s_l2Near_l1 (F : Nat) (x_2 : Int) (x_3 : Int) (x_1 : (Int × (List (Int × Int))))  : Nat → Int → Option Bool
  | 0, _ => none
  | k + 1, x_6 =>
    bif decide (x_6 < (x_1.2.length : Int)) then
      (idx x_1.2 x_6).bind fun e_9 =>
      bif (e_9.1 == x_2) then
        bif (e_9.2 == x_3) then
          s_l2Near_j1 F x_2 x_3 x_1 x_6 (s_l2Near_l1 F x_2 x_3 x_1 k) true
        else
          bif (e_9.1 == x_3) then
            s_l2Near_j1 F x_2 x_3 x_1 x_6 (s_l2Near_l1 F x_2 x_3 x_1 k) (e_9.2 == x_2)
          else
            s_l2Near_j1 F x_2 x_3 x_1 x_6 (s_l2Near_l1 F x_2 x_3 x_1 k) false
      else
        bif (e_9.1 == x_3) then
          s_l2Near_j1 F x_2 x_3 x_1 x_6 (s_l2Near_l1 F x_2 x_3 x_1 k) (e_9.2 == x_2)
        else
          s_l2Near_j1 F x_2 x_3 x_1 x_6 (s_l2Near_l1 F x_2 x_3 x_1 k) false
    else
      some false
theorem t_f145_l1 (H : H145 D σ F) (x_2 : Int) (x_3 : Int) (x_1 : (Int × (List (Int × Int))))  : ∀ (k : Nat) (x_6 : Int) (s : Nat → V), Facts [(1, (ji x_2)), (2, (ji x_3)), (3, (.ref (.bx 3) 0 [] (.agg [(ji x_1.1), (Enc.enc (x_1.2 : List (Int × Int)))]))), (6, (jb false)), (7, (ji x_6))] s → s_l2Near_l1 F x_2 x_3 x_1 k x_6 = some r → Run D σ (R145 r) (.run A145_1 [.lp A145_1, .bk 0, .sq A145_7]) s := by
  intro k
  induction k with
  | zero => intro x_6 s _ h; exact nomatch (h : (none : Option _) = some r)
  | succ k ih =>
    intro x_6 s hs h
    rw [s_l2Near_l1] at h
    obtain ⟨h1, h2, h3, h6, h7⟩ := hs
    refine .seq (.seq (rg (gm h7 fun h9 => g1 3 (.ref (.bx 3) 0 [1] (Enc.enc (x_1.2 : List (Int × Int)))) h3 fun h10 => ?_)))
    refine g1 10 (Enc.enc (x_1.2 : List (Int × Int))) h10 fun h11 => ?_
    refine gv (ji (x_1.2.length : Int)) (ev_len (xs := x_1.2) h11) fun h12 => ?_
    refine g2 9 12 (jb (decide (x_6 < (x_1.2.length : Int)))) h9 h12 fun h13 => ?_
    refine gq (.nsq (run_cond (t := decide (x_6 < (x_1.2.length : Int))) h13 h (fun h => ?_) (fun h => ?_)))
    · refine .skip (.nsq (.seq (.block (.seq (run_reg ?_)))))
      refine e_clr ?_
      refine ez [(1, _), (2, _), (3, _), (6, _), (7, _), (8, _)] ⟨(keep_clear (pk := [8]) h1 rfl mi), (keep_clear (pk := [8]) h2 rfl mi), (keep_clear (pk := [8]) h3 rfl (map_bx rfl (map_agg (maps_cons mi (maps_cons me maps_nil))))), (keep_clear (pk := [8]) h6 rfl mb), (keep_clear (pk := [8]) h7 rfl mi), (gone_clear (pk := [8]) (t := 8) rfl)⟩ ?_
      rintro s ⟨h1, h2, h3, h6, h7, h8⟩
      refine g1 3 (.ref (.bx 3) 0 [1] (Enc.enc (x_1.2 : List (Int × Int)))) h3 fun h16 => ?_
      refine g1 16 (Enc.enc (x_1.2 : List (Int × Int))) h16 fun h17 => ?_
      refine gm h7 fun h18 => ?_
      obtain ⟨e_9, E_e_9, h⟩ := bind_some h
      refine gv (.ref .sh 0 [] (.agg [(ji e_9.1), (ji e_9.2)])) (ev_idx (t := .sh) (lo := 0) (xs := x_1.2) h17 h18 E_e_9 rfl rfl) fun h19 => ?_
      refine g1 19 (.agg [(ji e_9.1), (ji e_9.2)]) h19 fun h20 => ?_
      refine g_alloc h8 ?_
      refine g_store (.agg [(ji e_9.1), (ji e_9.2)]) (rd_of rfl rfl) (rd_of h20 rfl) (by refine ⟨by decide, by decide, rfl, rfl, rfl, ?_⟩; first | rfl | (simp [V.toks, V.tokss, Enc.toks_enc]; done) | simp [V.toks, V.tokss, Enc.toks_enc, tok_memP]) ?_
      refine gz [(1, (ji x_2)), (2, (ji x_3)), (3, (.ref (.bx 3) 0 [] (.agg [(ji x_1.1), (Enc.enc (x_1.2 : List (Int × Int)))]))), (6, (jb false)), (7, (ji x_6)), (8, (.ref (.bx 8) 0 [] (.agg [(ji e_9.1), (ji e_9.2)])))] ⟨(keep_mut h1 rfl), (keep_mut h2 rfl), (keep_mut h3 (mut_ref_ne rfl rfl (mut_agg (muts_cons rfl (muts_cons (Enc.mut_enc _ _ _ _ (x_1.2 : List (Int × Int))) rfl))))), (keep_mut h6 rfl), (keep_mut h7 rfl), (keep_mut rfl rfl)⟩ ?_
      rintro s ⟨h1, h2, h3, h6, h7, h8⟩
      refine .nsq (.seq (rg (g1 8 (.ref (.bx 8) 0 [0] (ji e_9.1)) h8 fun h21 => ?_)))
      refine g1 21 (ji e_9.1) h21 fun h22 => ?_
      refine gm h1 fun h23 => g2 22 23 (jb (e_9.1 == x_2)) h22 h23 fun h24 => ?_
      refine gm h24 fun h25 => split_on (c := (e_9.1 == x_2)) h (fun hg5 h => ?_) (fun hg5 h => ?_)
      · refine g_yes (h25.trans (congrArg V.bool hg5)) (g1 8 (.ref (.bx 8) 0 [1] (ji e_9.2)) h8 fun h26 => ?_)
        refine g_yes (h25.trans (congrArg V.bool hg5)) (g1 26 (ji e_9.2) h26 fun h27 => ?_)
        refine g_yes (h25.trans (congrArg V.bool hg5)) (gm h2 fun h28 => ?_)
        refine g_yes (h25.trans (congrArg V.bool hg5)) (g2 27 28 (jb (e_9.2 == x_3)) h27 h28 fun h29 => ?_)
        refine g2 25 29 (jb (e_9.2 == x_3)) (h25.trans (congrArg V.bool hg5)) h29 fun h30 => ?_
        refine gm h30 fun h31 => split_on (c := (e_9.2 == x_3)) h (fun hg11 h => ?_) (fun hg11 h => ?_)
        · refine g_no (h31.trans (congrArg V.bool hg11)) ?_
          refine g_no (h31.trans (congrArg V.bool hg11)) ?_
          refine g_no (h31.trans (congrArg V.bool hg11)) ?_
          refine g_no (h31.trans (congrArg V.bool hg11)) ?_
          refine g_no (h31.trans (congrArg V.bool hg11)) ?_
          refine g_skip rfl ?_
          refine g_skip rfl ?_
          refine g_skip rfl ?_
          refine g_skip rfl ?_
          refine g_no (h31.trans (congrArg V.bool hg11)) ?_
          refine g2 31 41 (jb true) (h31.trans (congrArg V.bool hg11)) (rfl : (_ : V) = (.tup [])) fun h42 => ?_
          refine gq ?_
          exact t_f145_j1 H x_2 x_3 x_1 x_6 (s_l2Near_l1 F x_2 x_3 x_1 k) ih true _ ⟨h1, h2, h3, h6, h7, h42⟩ h
        refine g_yes (h31.trans (congrArg V.bool hg11)) (g1 8 (.ref (.bx 8) 0 [0] (ji e_9.1)) h8 fun h32 => ?_)
        refine g_yes (h31.trans (congrArg V.bool hg11)) (g1 32 (ji e_9.1) h32 fun h33 => ?_)
        refine g_yes (h31.trans (congrArg V.bool hg11)) (gm h2 fun h34 => ?_)
        refine g_yes (h31.trans (congrArg V.bool hg11)) (g2 33 34 (jb (e_9.1 == x_3)) h33 h34 fun h35 => ?_)
        refine g_yes (h31.trans (congrArg V.bool hg11)) (gm h35 fun h36 => ?_)
        refine split_on (c := (e_9.1 == x_3)) h (fun hg16 h => ?_) (fun hg16 h => ?_)
        · refine g_yes (h36.trans (congrArg V.bool hg16)) (g1 8 (.ref (.bx 8) 0 [1] (ji e_9.2)) h8 fun h37 => ?_)
          refine g_yes (h36.trans (congrArg V.bool hg16)) (g1 37 (ji e_9.2) h37 fun h38 => ?_)
          refine g_yes (h36.trans (congrArg V.bool hg16)) (gm h1 fun h39 => ?_)
          refine g_yes (h36.trans (congrArg V.bool hg16)) (g2 38 39 (jb (e_9.2 == x_2)) h38 h39 fun h40 => ?_)
          refine g_yes (h31.trans (congrArg V.bool hg11)) (g2 36 40 (jb (e_9.2 == x_2)) (h36.trans (congrArg V.bool hg16)) h40 fun h41 => ?_)
          refine g2 31 41 (jb (e_9.2 == x_2)) (h31.trans (congrArg V.bool hg11)) h41 fun h42 => ?_
          refine gq ?_
          exact t_f145_j1 H x_2 x_3 x_1 x_6 (s_l2Near_l1 F x_2 x_3 x_1 k) ih (e_9.2 == x_2) _ ⟨h1, h2, h3, h6, h7, h42⟩ h
        refine g_no (h36.trans (congrArg V.bool hg16)) ?_
        refine g_no (h36.trans (congrArg V.bool hg16)) ?_
        refine g_no (h36.trans (congrArg V.bool hg16)) ?_
        refine g_no (h36.trans (congrArg V.bool hg16)) ?_
        refine g_yes (h31.trans (congrArg V.bool hg11)) (g2 36 40 (jb false) (h36.trans (congrArg V.bool hg16)) (rfl : (_ : V) = (.tup [])) fun h41 => ?_)
        refine g2 31 41 (jb false) (h31.trans (congrArg V.bool hg11)) h41 fun h42 => ?_
        refine gq ?_
        exact t_f145_j1 H x_2 x_3 x_1 x_6 (s_l2Near_l1 F x_2 x_3 x_1 k) ih false _ ⟨h1, h2, h3, h6, h7, h42⟩ h
      refine g_no (h25.trans (congrArg V.bool hg5)) ?_
      refine g_no (h25.trans (congrArg V.bool hg5)) ?_
      refine g_no (h25.trans (congrArg V.bool hg5)) ?_
      refine g_no (h25.trans (congrArg V.bool hg5)) ?_
      refine g2 25 29 (jb false) (h25.trans (congrArg V.bool hg5)) (rfl : (_ : V) = (.tup [])) fun h30 => ?_
      refine gm h30 fun h31 => g_yes h31 (g1 8 (.ref (.bx 8) 0 [0] (ji e_9.1)) h8 fun h32 => ?_)
      refine g_yes h31 (g1 32 (ji e_9.1) h32 fun h33 => ?_)
      refine g_yes h31 (gm h2 fun h34 => ?_)
      refine g_yes h31 (g2 33 34 (jb (e_9.1 == x_3)) h33 h34 fun h35 => ?_)
      refine g_yes h31 (gm h35 fun h36 => ?_)
      refine split_on (c := (e_9.1 == x_3)) h (fun hg16 h => ?_) (fun hg16 h => ?_)
      · refine g_yes (h36.trans (congrArg V.bool hg16)) (g1 8 (.ref (.bx 8) 0 [1] (ji e_9.2)) h8 fun h37 => ?_)
        refine g_yes (h36.trans (congrArg V.bool hg16)) (g1 37 (ji e_9.2) h37 fun h38 => ?_)
        refine g_yes (h36.trans (congrArg V.bool hg16)) (gm h1 fun h39 => ?_)
        refine g_yes (h36.trans (congrArg V.bool hg16)) (g2 38 39 (jb (e_9.2 == x_2)) h38 h39 fun h40 => ?_)
        refine g_yes h31 (g2 36 40 (jb (e_9.2 == x_2)) (h36.trans (congrArg V.bool hg16)) h40 fun h41 => ?_)
        refine g2 31 41 (jb (e_9.2 == x_2)) h31 h41 fun h42 => ?_
        refine gq ?_
        exact t_f145_j1 H x_2 x_3 x_1 x_6 (s_l2Near_l1 F x_2 x_3 x_1 k) ih (e_9.2 == x_2) _ ⟨h1, h2, h3, h6, h7, h42⟩ h
      refine g_no (h36.trans (congrArg V.bool hg16)) ?_
      refine g_no (h36.trans (congrArg V.bool hg16)) ?_
      refine g_no (h36.trans (congrArg V.bool hg16)) ?_
      refine g_no (h36.trans (congrArg V.bool hg16)) ?_
      refine g_yes h31 (g2 36 40 (jb false) (h36.trans (congrArg V.bool hg16)) (rfl : (_ : V) = (.tup [])) fun h41 => ?_)
      refine g2 31 41 (jb false) h31 h41 fun h42 => ?_
      refine gq ?_
      exact t_f145_j1 H x_2 x_3 x_1 x_6 (s_l2Near_l1 F x_2 x_3 x_1 k) ih false _ ⟨h1, h2, h3, h6, h7, h42⟩ h
    refine .exit (.esq (.elp (.ebk (.nsq (.seq (rg (g0 (jb false) fun h6 => ?_)))))))
    refine gq (.nsq (.ret ?_))
    have hr := Option.some.inj h
    subst hr
    exact rrA (res_tmp h6) rfl
def s_l2Near (F : Nat) (x_1 : (Int × (List (Int × Int)))) (x_2 : Int) (x_3 : Int) : Option Bool :=
  s_l2Near_l1 F x_2 x_3 x_1 F 0
theorem t145 (H : H145 D σ F) (x_1 : (Int × (List (Int × Int)))) (x_2 : Int) (x_3 : Int) (s : Nat → V) (hs : Facts [(0, (.agg [(ji x_1.1), (Enc.enc (x_1.2 : List (Int × Int)))])), (1, (ji x_2)), (2, (ji x_3))] s) (h : s_l2Near F x_1 x_2 x_3 = some r) : Run D σ (R145 r) (.run A145 []) s := by
  unfold s_l2Near at h
  obtain ⟨h0, h1, h2⟩ := hs
  refine .seq (run_reg ?_)
  refine e_clr ?_
  refine ez [(0, _), (1, _), (2, _), (3, _)] ⟨(keep_clear (pk := [3]) h0 rfl (map_agg (maps_cons mi (maps_cons me maps_nil)))), (keep_clear (pk := [3]) h1 rfl mi), (keep_clear (pk := [3]) h2 rfl mi), (gone_clear (pk := [3]) (t := 3) rfl)⟩ ?_
  rintro s ⟨h0, h1, h2, h3⟩
  refine g_box (.agg [(ji x_1.1), (Enc.enc (x_1.2 : List (Int × Int)))]) (rd_of h0 rfl) h3 rfl ?_
  refine g0 (jb false) fun h6 => ?_
  refine gq (.nsq (.seq (.seq (rg (g0 (ji 0) fun h7 => gq (.nsq (.block (.loop ?_))))))))
  exact t_f145_l1 H x_2 x_3 x_1 F 0 _ ⟨h1, h2, rfl, h6, h7⟩ h
end
def e145 (F : Nat) : Ent := ent 145 (fun (x : ((Int × (List (Int × Int))) × Int × Int × Unit)) => s_l2Near F x.1 x.2.1 x.2.2.1) (fun (r : Bool) => (Enc.enc (r : Bool))) 0 false []
theorem p145 {F : Nat} {x0 : (Int × (List (Int × Int)))} {x1 : Int} {x2 : Int} {r : Bool} (h : s_l2Near F x0 x1 x2 = some r) : (e145 F).den [Enc.enc x0, Enc.enc x1, Enc.enc x2] = some (Enc.enc (r : Bool)) := ent_put (x0, x1, x2, ()) h
theorem o145 {D : Den} {σ : Sig} {F : Nat} (hF : Fits2 Try.prog D σ) (H : H145 D σ F) : (e145 F).Ok Try.prog := by
  refine ok_of (f := 145) (show unk 145 = 145 from rfl) (fun args r h => ?_) ⟨Try.f145, Try.func145, rfl, rfl⟩
  obtain ⟨⟨x0, x1, x2, _⟩, y, rfl, hy, rfl⟩ := da_open h
  exact contract_run hF (by kernel_rfl) Try.func145 rfl c145 (show 3 ≤ Try.f145.ntmps by decide) (t145 H x0 x1 x2 _ ⟨rfl, rfl, rfl⟩ hy)
/- loop.example/g01109/spec.l2Neighbors -/
def A169_2 : AC := (.cond (.t 11) .skip (.exit 0))
def A169_4 : AC := (.cond (.t 17) (.reg [.clr [20, 21]] [(jm 18 5), (jm 19 6), (.mk (some 20) none false (.lit (.int .i64 (.ofNat 0)) 1 [(0, 0, (.t 19))])), (.mk (some 21) none false (.app .s (.t 18) (.t 20))), (jm 5 21)] [.home 21 5]) .skip)
def A169_5 : AC := (.reg [] [(jm 12 6), ((jv 13 (.bin .add (.t 12) (jn 1)))), (jm 6 13)] [])
def A169_3 : AC := (.seq (.block 1 (.seq (.reg [] [((jv 14 (.load (.ag [.s, .p]) (.t 2)))), (jm 15 1), (jm 16 6), (.mk (some 17) none false (.call (.k (.fn 145 [] [])) [(.t 14), (.t 15), (.t 16)]))] []) A169_4)) A169_5)
def A169_1 : AC := (.seq (.seq (.reg [] [(jm 8 6), ((jv 9 (.fld (.t 2) 0 0))), ((jv 10 (.load .s (.t 9)))), ((jv 11 (.bin .lss (.t 8) (.t 10))))] []) A169_2) A169_3)
def A169_6 : AC := (.seq (.reg [] [(jm 22 5), (jm 4 22)] [.home 5 4]) .ret)
def A169_9 : AC := (.block 0 (.loop A169_1))
def A169_8 : AC := (.seq (.seq (.reg [] [((jv 6 (.mov (jn 0))))] []) A169_9) A169_6)
def A169_7 : AC := (.seq (.reg [.clr [7]] [(.mk (some 7) none false (.lit (.int .i64 (.ofNat 0)) 0 [])), (jm 5 7)] [.home 7 5]) A169_8)
def A169 : AC := (.seq (.reg [.clr [2]] [(.mk (some 2) none false (.box (.t 0))), ((jv 4 (.mov (.k (.sl .nl .s 0 [])))))] []) A169_7)
def an169 : List An := [{ id := 0, pre := [.clr [2]], ep := [], lin := [], sp := [] }, { id := 1, pre := [.clr [7]], ep := [.home 7 5], lin := [], sp := [] }, { id := 6, pre := [.clr [20, 21]], ep := [.home 21 5], lin := [], sp := [] }, { id := 7, pre := [], ep := [.home 5 4], lin := [], sp := [] }]
theorem c169 : cC Try.prog Try.f169.ntmps an169 (Try.f169.body.getD .skip) = some A169 := by kernel_rfl
structure H169 (D : Den) (σ : Sig) (F : Nat) : Prop where
  c145 : ∀ (x0 : (Int × (List (Int × Int)))) (x1 : Int) (x2 : Int) r, s_l2Near F x0 x1 x2 = some r → D 145 [Enc.enc x0, Enc.enc x1, Enc.enc x2] = some (Enc.enc (r : Bool))
  g145 : σ 145 = some (0, false)
abbrev R169 (r : (List Int)) : (Nat → V) → Prop := RR Try.prog [.tmp 4] 0 false (Enc.enc (r : (List Int)))
section
variable {D : Den} {σ : Sig} {F : Nat} {r : (List Int)}
def s_l2Neighbors_j1 (F : Nat) (x_2 : Int) (x_1 : (Int × (List (Int × Int)))) (x_8 : Int) (c1 : (List Int) → Int → Option (List Int)) (x_15 : (List Int)) : Option (List Int) :=
  c1 x_15 (w64 (x_8 + 1))
theorem t_f169_j1 (H : H169 D σ F) (x_2 : Int) (x_1 : (Int × (List (Int × Int)))) (x_8 : Int) (c1 : (List Int) → Int → Option (List Int)) (Hc1 : ∀ (x_7 : (List Int)) (x_8 : Int) (s : Nat → V), Facts [(1, (ji x_2)), (2, (.ref (.bx 2) 0 [] (.agg [(ji x_1.1), (Enc.enc (x_1.2 : List (Int × Int)))]))), (4, (.sl .nl (Enc.shp Int) 0 [])), (5, (oI 5 [] (.of x_7))), (6, (ji x_8))] s → c1 x_7 x_8 = some r → Run D σ (R169 r) (.run A169_1 [.lp A169_1, .bk 0, .sq A169_6]) s) (x_15 : (List Int)) (s : Nat → V) (hs : Facts [(1, (ji x_2)), (2, (.ref (.bx 2) 0 [] (.agg [(ji x_1.1), (Enc.enc (x_1.2 : List (Int × Int)))]))), (4, (.sl .nl (Enc.shp Int) 0 [])), (5, (oI 5 [] (.of x_15))), (6, (ji x_8))] s) (h : s_l2Neighbors_j1 F x_2 x_1 x_8 c1 x_15 = some r) : Run D σ (R169 r) (.nrm [.bk 1, .sq A169_5, .lp A169_1, .bk 0, .sq A169_6]) s := by
  unfold s_l2Neighbors_j1 at h
  obtain ⟨h1, h2, h4, h5, h6⟩ := hs
  refine .nbk (.nsq (rg (gm h6 fun h12 => g1 12 (ji (w64 (x_8 + 1))) h12 fun h13 => ?_)))
  refine gm h13 fun h6 => gq (.nlp ?_)
  exact Hc1 x_15 (w64 (x_8 + 1)) _ ⟨h1, h2, h4, h5, h6⟩ h
def s_l2Neighbors_l1 (F : Nat) (x_2 : Int) (x_1 : (Int × (List (Int × Int))))  : Nat → (List Int) → Int → Option (List Int)
  | 0, _, _ => none
  | k + 1, x_7, x_8 =>
    bif decide (x_8 < x_1.1) then
      (s_l2Near F x_1 x_2 x_8).bind fun r_13 =>
      bif r_13 then
        (appL x_7 [x_8]).bind fun ap_16 =>
        s_l2Neighbors_j1 F x_2 x_1 x_8 (s_l2Neighbors_l1 F x_2 x_1 k) ap_16
      else
        s_l2Neighbors_j1 F x_2 x_1 x_8 (s_l2Neighbors_l1 F x_2 x_1 k) x_7
    else
      some x_7
theorem t_f169_l1 (H : H169 D σ F) (x_2 : Int) (x_1 : (Int × (List (Int × Int))))  : ∀ (k : Nat) (x_7 : (List Int)) (x_8 : Int) (s : Nat → V), Facts [(1, (ji x_2)), (2, (.ref (.bx 2) 0 [] (.agg [(ji x_1.1), (Enc.enc (x_1.2 : List (Int × Int)))]))), (4, (.sl .nl (Enc.shp Int) 0 [])), (5, (oI 5 [] (.of x_7))), (6, (ji x_8))] s → s_l2Neighbors_l1 F x_2 x_1 k x_7 x_8 = some r → Run D σ (R169 r) (.run A169_1 [.lp A169_1, .bk 0, .sq A169_6]) s := by
  intro k
  induction k with
  | zero => intro x_7 x_8 s _ h; exact nomatch (h : (none : Option _) = some r)
  | succ k ih =>
    intro x_7 x_8 s hs h
    rw [s_l2Neighbors_l1] at h
    obtain ⟨h1, h2, h4, h5, h6⟩ := hs
    refine .seq (.seq (rg (gm h6 fun h8 => g1 2 (.ref (.bx 2) 0 [0] (ji x_1.1)) h2 fun h9 => ?_)))
    refine g1 9 (ji x_1.1) h9 fun h10 => ?_
    refine g2 8 10 (jb (decide (x_8 < x_1.1))) h8 h10 fun h11 => ?_
    refine gq (.nsq (run_cond (t := decide (x_8 < x_1.1)) h11 h (fun h => ?_) (fun h => ?_)))
    · refine .skip (.nsq (.seq (.block (.seq (rg (g1 2 (.agg [(ji x_1.1), (Enc.enc (x_1.2 : List (Int × Int)))]) h2 fun h14 => ?_))))))
      refine gm h1 fun h15 => gm h6 fun h16 => ?_
      obtain ⟨r_13, E_r_13, h⟩ := bind_some h
      refine g_call (m := 0) (al := false) (r := (Enc.enc (r_13 : Bool))) [Enc.enc (x_1 : (Int × (List (Int × Int)))), Enc.enc (x_2 : Int), Enc.enc (x_8 : Int)] (ta_cons (v := (.agg [(ji x_1.1), (Enc.enc (x_1.2 : List (Int × Int)))])) h14 rfl (Enc.erase_enc (x_1 : (Int × (List (Int × Int))))) (ta_cons (v := (ji x_2)) h15 rfl rfl (ta_cons (v := (ji x_8)) h16 rfl rfl ta_nil))) (H.c145 _ _ _ _ E_r_13) H.g145 rfl rfl rfl rfl ?_
      refine gq (.nsq (run_cond (t := r_13) rfl h (fun h => ?_) (fun h => ?_)))
      · refine run_reg ?_
        refine e_clr ?_
        refine ez [(1, _), (2, _), (4, _), (5, _), (6, _), (20, _), (21, _)] ⟨(keep_clear (pk := [20, 21]) h1 rfl mi), (keep_clear (pk := [20, 21]) h2 rfl (map_bx rfl (map_agg (maps_cons mi (maps_cons me maps_nil))))), (keep_clear (pk := [20, 21]) h4 rfl rfl), (keep_clear (pk := [20, 21]) h5 rfl (map_encO (r := 5) (p := []) rfl rfl)), (keep_clear (pk := [20, 21]) h6 rfl mi), (gone_clear (pk := [20, 21]) (t := 20) rfl), (gone_clear (pk := [20, 21]) (t := 21) rfl)⟩ ?_
        rintro s ⟨h1, h2, h4, h5, h6, h20, h21⟩
        refine gm h5 fun h18 => gm h6 fun h19 => g_litL [(19, (ji x_8))] [Enc.enc (x_8 : Int)] h19 rfl rfl h20 ?_
        obtain ⟨ap_16, E_ap_16, h⟩ := bind_some h
        refine g_app (q := 5) (p := []) (o := (.of (x_7 : List Int))) (ys := ([x_8] : List Int)) (t2 := (.at 20 [])) (lo2 := 0) h18 rfl rfl h21 (appN_L (o := (.of (x_7 : List Int))) E_ap_16 trivial) (fun s_20 ha_20 => ?_)
        refine gm (rfl : (_ : V) = (oI 21 [] (.of ap_16))) fun h5 => ?_
        refine g_end ?_
        refine e_home (r := 21) (x := 5) (v := _) h5 rfl (fun s_21 hg_21 => ?_)
        refine ez [(1, (ji x_2)), (2, (.ref (.bx 2) 0 [] (.agg [(ji x_1.1), (Enc.enc (x_1.2 : List (Int × Int)))]))), (4, (.sl .nl (Enc.shp Int) 0 [])), (5, (oI 5 [] (.of ap_16))), (6, (ji x_8))] ⟨(hg_21 1 _ _ (show s_20 1 = (ji x_2) from keep_app ha_20 h1 mi) mi), (hg_21 2 _ _ (show s_20 2 = (.ref (.bx 2) 0 [] (.agg [(ji x_1.1), (Enc.enc (x_1.2 : List (Int × Int)))])) from keep_app ha_20 h2 (map_bx rfl (map_agg (maps_cons mi (maps_cons me maps_nil))))) (map_bx rfl (map_agg (maps_cons mi (maps_cons me maps_nil))))), (hg_21 4 _ (.sl .nl (Enc.shp Int) 0 []) (show s_20 4 = (.sl .nl (Enc.shp Int) 0 []) from keep_app ha_20 h4 rfl) rfl), (hg_21 5 _ _ h5 (map_encO (r := 21) (p := []) rfl rfl)), (hg_21 6 _ _ (show s_20 6 = (ji x_8) from keep_app ha_20 h6 mi) mi)⟩ ?_
        rintro s ⟨h1, h2, h4, h5, h6⟩
        exact t_f169_j1 H x_2 x_1 x_8 (s_l2Neighbors_l1 F x_2 x_1 k) ih ap_16 _ ⟨h1, h2, h4, h5, h6⟩ h
      refine .skip ?_
      exact t_f169_j1 H x_2 x_1 x_8 (s_l2Neighbors_l1 F x_2 x_1 k) ih x_7 _ ⟨h1, h2, h4, h5, h6⟩ h
    refine .exit (.esq (.elp (.ebk (.nsq (.seq (rg (gm h5 fun h22 => gm h22 fun h4 => g_end ?_)))))))
    refine e_home (r := 5) (x := 4) (v := _) h4 rfl (fun s_22 hg_22 => ?_)
    refine ez [(4, (oI 4 [] (.of x_7)))] (hg_22 4 _ _ h4 (map_encO (r := 5) (p := []) rfl rfl)) ?_
    rintro s h4
    refine .nsq (.ret ?_)
    have hr := Option.some.inj h
    subst hr
    exact rrA (res_tmp h4) (fin_retF (fin_own (o := .of x_7)) (mine_own rfl))
def s_l2Neighbors (F : Nat) (x_1 : (Int × (List (Int × Int)))) (x_2 : Int) : Option (List Int) :=
  s_l2Neighbors_l1 F x_2 x_1 F [] 0
theorem t169 (H : H169 D σ F) (x_1 : (Int × (List (Int × Int)))) (x_2 : Int) (s : Nat → V) (hs : Facts [(0, (.agg [(ji x_1.1), (Enc.enc (x_1.2 : List (Int × Int)))])), (1, (ji x_2))] s) (h : s_l2Neighbors F x_1 x_2 = some r) : Run D σ (R169 r) (.run A169 []) s := by
  unfold s_l2Neighbors at h
  obtain ⟨h0, h1⟩ := hs
  refine .seq (run_reg ?_)
  refine e_clr ?_
  refine ez [(0, _), (1, _), (2, _)] ⟨(keep_clear (pk := [2]) h0 rfl (map_agg (maps_cons mi (maps_cons me maps_nil)))), (keep_clear (pk := [2]) h1 rfl mi), (gone_clear (pk := [2]) (t := 2) rfl)⟩ ?_
  rintro s ⟨h0, h1, h2⟩
  refine g_box (.agg [(ji x_1.1), (Enc.enc (x_1.2 : List (Int × Int)))]) (rd_of h0 rfl) h2 rfl ?_
  refine g0 (.sl .nl (Enc.shp Int) 0 []) fun h4 => ?_
  refine gq (.nsq (.seq (run_reg ?_)))
  refine e_clr ?_
  refine ez [(1, _), (2, _), (4, _), (7, _)] ⟨(keep_clear (pk := [7]) h1 rfl mi), (keep_clear (pk := [7]) rfl rfl (map_bx rfl (map_agg (maps_cons mi (maps_cons me maps_nil))))), (keep_clear (pk := [7]) h4 rfl rfl), (gone_clear (pk := [7]) (t := 7) rfl)⟩ ?_
  rintro s ⟨h1, h2, h4, h7⟩
  refine g_litL [] [] trivial rfl rfl h7 ?_
  refine gm (rfl : (_ : V) = (oI 7 [] (.of []))) fun h5 => ?_
  refine g_end ?_
  refine e_home (r := 7) (x := 5) (v := _) h5 rfl (fun s_3 hg_3 => ?_)
  refine ez [(1, (ji x_2)), (2, (.ref (.bx 2) 0 [] (.agg [(ji x_1.1), (Enc.enc (x_1.2 : List (Int × Int)))]))), (4, (.sl .nl (Enc.shp Int) 0 [])), (5, (oI 5 [] (.of [])))] ⟨(hg_3 1 _ _ h1 mi), (hg_3 2 _ _ h2 (map_bx rfl (map_agg (maps_cons mi (maps_cons me maps_nil))))), (hg_3 4 _ (.sl .nl (Enc.shp Int) 0 []) h4 rfl), (hg_3 5 _ _ h5 (map_encO (r := 7) (p := []) rfl rfl))⟩ ?_
  rintro s ⟨h1, h2, h4, h5⟩
  refine .nsq (.seq (.seq (rg (g0 (ji 0) fun h6 => gq (.nsq (.block (.loop ?_)))))))
  exact t_f169_l1 H x_2 x_1 F [] 0 _ ⟨h1, h2, h4, h5, h6⟩ h
end
def e169 (F : Nat) : Ent := ent 169 (fun (x : ((Int × (List (Int × Int))) × Int × Unit)) => s_l2Neighbors F x.1 x.2.1) (fun (r : (List Int)) => (Enc.enc (r : (List Int)))) 0 false []
theorem p169 {F : Nat} {x0 : (Int × (List (Int × Int)))} {x1 : Int} {r : (List Int)} (h : s_l2Neighbors F x0 x1 = some r) : (e169 F).den [Enc.enc x0, Enc.enc x1] = some (Enc.enc (r : (List Int))) := ent_put (x0, x1, ()) h
theorem o169 {D : Den} {σ : Sig} {F : Nat} (hF : Fits2 Try.prog D σ) (H : H169 D σ F) : (e169 F).Ok Try.prog := by
  refine ok_of (f := 169) (show unk 169 = 169 from rfl) (fun args r h => ?_) ⟨Try.f169, Try.func169, rfl, rfl⟩
  obtain ⟨⟨x0, x1, _⟩, y, rfl, hy, rfl⟩ := da_open h
  exact contract_run hF (by kernel_rfl) Try.func169 rfl c169 (show 2 ≤ Try.f169.ntmps by decide) (t169 H x0 x1 _ ⟨rfl, rfl⟩ hy)
/- loop.example/g01109/spec.l1Put -/
def A146_1 : AC := (.cond (.t 31) (.seq (.reg [] [(jm 32 0), (jm 4 32)] []) .ret) .skip)
def A146_2 : AC := (.seq (.reg [.clr [33, 37, 39, 40, 44]] [(.mk (some 33) none true (.lit (.int .i64 (.ofNat 0)) 0 [])), (jm 34 0), (jm 35 5), ((jv 36 (.slice (.t 34) none (some (.t 35)) 1))), (.mk (some 37) none true (.appS .s (.t 33) (.t 36))), (jm 38 1), (.mk (some 39) none false (.lit (.int .i64 (.ofNat 0)) 1 [(0, 0, (.t 38))])), (.mk (some 40) none true (.appS .s (.t 37) (.t 39))), (jm 41 0), (jm 42 5), ((jv 43 (.slice (.t 41) (some (.t 42)) none 1))), (.mk (some 44) none false (.appS .s (.t 40) (.t 43))), (jm 4 44)] [.home 44 4]) .ret)
def A146_4 : AC := (.cond (.t 17) .skip (.exit 0))
def A146_5 : AC := (.block 1 (.reg [] [(jm 18 5), ((jv 19 (.bin .add (.t 18) (jn 1)))), (jm 5 19)] []))
def A146_3 : AC := (.seq (.seq (.reg [] [(jm 6 5), (jm 7 0), ((jv 8 (.len (.t 7)))), ((jv 9 (.bin .lss (.t 6) (.t 8)))), (jm 10 9), ((jg 11 10 true (.mov (.t 0)))), ((jg 12 10 true (.mov (.t 5)))), ((jg 13 10 true (.idx (.t 11) (.t 12) 1))), ((jg 14 10 true (.load .s (.t 13)))), ((jg 15 10 true (.mov (.t 1)))), ((jg 16 10 true (.bin .lss (.t 14) (.t 15)))), ((jv 17 (.pick (.t 10) (.t 16) (.k (.bool false)))))] []) A146_4) A146_5)
def A146_6 : AC := (.seq (.seq (.reg [] [(jm 20 5), (jm 21 0), ((jv 22 (.len (.t 21)))), ((jv 23 (.bin .lss (.t 20) (.t 22)))), (jm 24 23), ((jg 25 24 true (.mov (.t 0)))), ((jg 26 24 true (.mov (.t 5)))), ((jg 27 24 true (.idx (.t 25) (.t 26) 1))), ((jg 28 24 true (.load .s (.t 27)))), ((jg 29 24 true (.mov (.t 1)))), ((jg 30 24 true (.bin .eql (.t 28) (.t 29)))), ((jv 31 (.pick (.t 24) (.t 30) (.k (.bool false)))))] []) A146_1) A146_2)
def A146_8 : AC := (.seq (.block 0 (.loop A146_3)) A146_6)
def A146_7 : AC := (.seq (.reg [] [((jv 5 (.mov (jn 0))))] []) A146_8)
def A146 : AC := (.seq (.reg [] [((jv 4 (.mov (.k (.sl .nl .s 0 [])))))] []) A146_7)
def an146 : List An := [{ id := 6, pre := [.clr [33, 37, 39, 40, 44]], ep := [.home 44 4], lin := [0, 4, 7], sp := [4, 7, 11] }]
theorem c146 : cC Try.prog Try.f146.ntmps an146 (Try.f146.body.getD .skip) = some A146 := by kernel_rfl
structure H146 (D : Den) (σ : Sig) (F : Nat) : Prop where
  mk ::
abbrev R146 (r : (List Int)) : (Nat → V) → Prop := RR Try.prog [.tmp 4] 0 true (Enc.enc (r : (List Int)))
section
variable {D : Den} {σ : Sig} {F : Nat} {r : (List Int)}
def s_l1Put_j1 (F : Nat) (x_1 : (List Int)) (x_2 : Int) (x_6 : Int)  (x_13 : Bool) : Option (List Int) :=
  bif x_13 then
    some x_1
  else
    (sub x_1 0 x_6).bind fun sub_14 =>
    (appL [] sub_14).bind fun ap_15 =>
    (appL ap_15 [x_2]).bind fun ap_16 =>
    (sub x_1 x_6 (x_1.length : Int)).bind fun sub_17 =>
    (appL ap_16 sub_17).bind fun ap_18 =>
    some ap_18
theorem t_f146_j1 (H : H146 D σ F) (x_1 : (List Int)) (x_2 : Int) (x_6 : Int)  (x_13 : Bool) (s : Nat → V) (hs : Facts [(0, (eL x_1)), (1, (ji x_2)), (4, (.sl .nl (Enc.shp Int) 0 [])), (5, (ji x_6)), (31, (jb x_13))] s) (h : s_l1Put_j1 F x_1 x_2 x_6  x_13 = some r) : Run D σ (R146 r) (.nrm [.sq A146_1, .sq A146_2]) s := by
  unfold s_l1Put_j1 at h
  obtain ⟨h0, h1, h4, h5, h31⟩ := hs
  refine .nsq (run_cond (t := x_13) h31 h (fun h => ?_) (fun h => ?_))
  · refine .seq (rg (gm h0 fun h32 => gm h32 fun h4 => gq (.nsq (.ret ?_))))
    have hr := Option.some.inj h
    subst hr
    exact rrA (res_tmp h4) (fin_ret1 (fin_enc (x := (x_1 : (List Int)))))
  refine .skip (.nsq (.seq (run_reg ?_)))
  refine e_clr ?_
  refine ez [(0, _), (1, _), (4, _), (5, _), (33, _), (37, _), (39, _), (40, _), (44, _)] ⟨(keep_clear (pk := [33, 37, 39, 40, 44]) h0 rfl me), (keep_clear (pk := [33, 37, 39, 40, 44]) h1 rfl mi), (keep_clear (pk := [33, 37, 39, 40, 44]) h4 rfl rfl), (keep_clear (pk := [33, 37, 39, 40, 44]) h5 rfl mi), (gone_clear (pk := [33, 37, 39, 40, 44]) (t := 33) rfl), (gone_clear (pk := [33, 37, 39, 40, 44]) (t := 37) rfl), (gone_clear (pk := [33, 37, 39, 40, 44]) (t := 39) rfl), (gone_clear (pk := [33, 37, 39, 40, 44]) (t := 40) rfl), (gone_clear (pk := [33, 37, 39, 40, 44]) (t := 44) rfl)⟩ ?_
  rintro s ⟨h0, h1, h4, h5, h33, h37, h39, h40, h44⟩
  refine g_litLl [] [] trivial rfl rfl h33 ?_
  refine gm h0 fun h34 => gm h5 fun h35 => ?_
  obtain ⟨sub_14, E_sub_14, h⟩ := bind_some h
  refine gv (eL sub_14) (ev_slice (xs := x_1) h34 (optI_none) (optI_some h35) E_sub_14 rfl) fun h36 => ?_
  obtain ⟨ap_15, E_ap_15, h⟩ := bind_some h
  refine g_appS (p := []) (xs := []) (ys := (sub_14 : List Int)) (t2 := .sh) (lo2 := 0) rfl h36 rfl h37 rfl E_ap_15 ?_
  refine gm h1 fun h38 => g_litL [(38, (ji x_2))] [Enc.enc (x_2 : Int)] h38 rfl rfl h39 ?_
  obtain ⟨ap_16, E_ap_16, h⟩ := bind_some h
  refine g_appS (p := []) (xs := ap_15) (ys := ([x_2] : List Int)) (t2 := (.at 39 [])) (lo2 := 0) rfl rfl rfl h40 rfl E_ap_16 ?_
  refine gm h0 fun h41 => gm h5 fun h42 => ?_
  obtain ⟨sub_17, E_sub_17, h⟩ := bind_some h
  refine gv (eL sub_17) (ev_slice (xs := x_1) h41 (optI_some h42) (optI_none) E_sub_17 rfl) fun h43 => ?_
  obtain ⟨ap_18, E_ap_18, h⟩ := bind_some h
  refine g_appS (p := []) (xs := ap_16) (ys := (sub_17 : List Int)) (t2 := .sh) (lo2 := 0) rfl h43 rfl h44 rfl E_ap_18 ?_
  refine gm (rfl : (_ : V) = (oI 44 [] (.of ap_18))) fun h4 => ?_
  refine g_end ?_
  refine e_home (r := 44) (x := 4) (v := _) h4 rfl (fun s_2 hg_2 => ?_)
  refine ez [(4, (oI 4 [] (.of ap_18)))] (hg_2 4 _ _ h4 (map_encO (r := 44) (p := []) rfl rfl)) ?_
  rintro s h4
  refine .nsq (.ret ?_)
  have hr := Option.some.inj h
  subst hr
  exact rrA (res_tmp h4) (fin_ret1 (fin_own (o := .of ap_18)))
def s_l1Put_j2 (F : Nat) (x_1 : (List Int)) (x_2 : Int) (x_6 : Int) (c1 : Int → Option (List Int)) (x_11 : Bool) : Option (List Int) :=
  bif x_11 then
    c1 (w64 (x_6 + 1))
  else
    bif decide (x_6 < (x_1.length : Int)) then
      (idx x_1 x_6).bind fun e_19 =>
      s_l1Put_j1 F x_1 x_2 x_6 (e_19 == x_2)
    else
      s_l1Put_j1 F x_1 x_2 x_6 false
theorem t_f146_j2 (H : H146 D σ F) (x_1 : (List Int)) (x_2 : Int) (x_6 : Int) (c1 : Int → Option (List Int)) (Hc1 : ∀ (x_6 : Int) (s : Nat → V), Facts [(0, (eL x_1)), (1, (ji x_2)), (4, (.sl .nl (Enc.shp Int) 0 [])), (5, (ji x_6))] s → c1 x_6 = some r → Run D σ (R146 r) (.run A146_3 [.lp A146_3, .bk 0, .sq A146_6]) s) (x_11 : Bool) (s : Nat → V) (hs : Facts [(0, (eL x_1)), (1, (ji x_2)), (4, (.sl .nl (Enc.shp Int) 0 [])), (5, (ji x_6)), (17, (jb x_11))] s) (h : s_l1Put_j2 F x_1 x_2 x_6 c1 x_11 = some r) : Run D σ (R146 r) (.nrm [.sq A146_4, .sq A146_5, .lp A146_3, .bk 0, .sq A146_6]) s := by
  unfold s_l1Put_j2 at h
  obtain ⟨h0, h1, h4, h5, h17⟩ := hs
  refine .nsq (run_cond (t := x_11) h17 h (fun h => ?_) (fun h => ?_))
  · refine .skip (.nsq (.block (rg (gm h5 fun h18 => g1 18 (ji (w64 (x_6 + 1))) h18 fun h19 => ?_))))
    refine gm h19 fun h5 => gq (.nbk (.nlp ?_))
    exact Hc1 (w64 (x_6 + 1)) _ ⟨h0, h1, h4, h5⟩ h
  refine .exit (.esq (.elp (.ebk (.nsq (.seq (.seq (rg (gm h5 fun h20 => gm h0 fun h21 => gv (ji (x_1.length : Int)) (ev_len (xs := x_1) h21) fun h22 => ?_))))))))
  refine g2 20 22 (jb (decide (x_6 < (x_1.length : Int)))) h20 h22 fun h23 => ?_
  refine gm h23 fun h24 => split_on (c := decide (x_6 < (x_1.length : Int))) h (fun hg5 h => ?_) (fun hg5 h => ?_)
  · refine g_yes (h24.trans (congrArg V.bool hg5)) (gm h0 fun h25 => ?_)
    refine g_yes (h24.trans (congrArg V.bool hg5)) (gm h5 fun h26 => ?_)
    obtain ⟨e_19, E_e_19, h⟩ := bind_some h
    refine g_yes (h24.trans (congrArg V.bool hg5)) (gv (.ref .sh 0 [] (ji e_19)) (ev_idx (t := .sh) (lo := 0) (xs := x_1) h25 h26 E_e_19 rfl rfl) fun h27 => ?_)
    refine g_yes (h24.trans (congrArg V.bool hg5)) (g1 27 (ji e_19) h27 fun h28 => ?_)
    refine g_yes (h24.trans (congrArg V.bool hg5)) (gm h1 fun h29 => ?_)
    refine g_yes (h24.trans (congrArg V.bool hg5)) (g2 28 29 (jb (e_19 == x_2)) h28 h29 fun h30 => ?_)
    refine g2 24 30 (jb (e_19 == x_2)) (h24.trans (congrArg V.bool hg5)) h30 fun h31 => ?_
    refine gq ?_
    exact t_f146_j1 H x_1 x_2 x_6 (e_19 == x_2) _ ⟨h0, h1, h4, h5, h31⟩ h
  refine g_no (h24.trans (congrArg V.bool hg5)) ?_
  refine g_no (h24.trans (congrArg V.bool hg5)) ?_
  refine g_no (h24.trans (congrArg V.bool hg5)) ?_
  refine g_no (h24.trans (congrArg V.bool hg5)) ?_
  refine g_no (h24.trans (congrArg V.bool hg5)) ?_
  refine g_no (h24.trans (congrArg V.bool hg5)) ?_
  refine g2 24 30 (jb false) (h24.trans (congrArg V.bool hg5)) (rfl : (_ : V) = (.tup [])) fun h31 => ?_
  refine gq ?_
  exact t_f146_j1 H x_1 x_2 x_6 false _ ⟨h0, h1, h4, h5, h31⟩ h
def s_l1Put_l1 (F : Nat) (x_1 : (List Int)) (x_2 : Int)  : Nat → Int → Option (List Int)
  | 0, _ => none
  | k + 1, x_6 =>
    bif decide (x_6 < (x_1.length : Int)) then
      (idx x_1 x_6).bind fun e_20 =>
      s_l1Put_j2 F x_1 x_2 x_6 (s_l1Put_l1 F x_1 x_2 k) (decide (e_20 < x_2))
    else
      s_l1Put_j2 F x_1 x_2 x_6 (s_l1Put_l1 F x_1 x_2 k) false
theorem t_f146_l1 (H : H146 D σ F) (x_1 : (List Int)) (x_2 : Int)  : ∀ (k : Nat) (x_6 : Int) (s : Nat → V), Facts [(0, (eL x_1)), (1, (ji x_2)), (4, (.sl .nl (Enc.shp Int) 0 [])), (5, (ji x_6))] s → s_l1Put_l1 F x_1 x_2 k x_6 = some r → Run D σ (R146 r) (.run A146_3 [.lp A146_3, .bk 0, .sq A146_6]) s := by
  intro k
  induction k with
  | zero => intro x_6 s _ h; exact nomatch (h : (none : Option _) = some r)
  | succ k ih =>
    intro x_6 s hs h
    rw [s_l1Put_l1] at h
    obtain ⟨h0, h1, h4, h5⟩ := hs
    refine .seq (.seq (rg (gm h5 fun h6 => gm h0 fun h7 => gv (ji (x_1.length : Int)) (ev_len (xs := x_1) h7) fun h8 => ?_)))
    refine g2 6 8 (jb (decide (x_6 < (x_1.length : Int)))) h6 h8 fun h9 => ?_
    refine gm h9 fun h10 => split_on (c := decide (x_6 < (x_1.length : Int))) h (fun hg5 h => ?_) (fun hg5 h => ?_)
    · refine g_yes (h10.trans (congrArg V.bool hg5)) (gm h0 fun h11 => ?_)
      refine g_yes (h10.trans (congrArg V.bool hg5)) (gm h5 fun h12 => ?_)
      obtain ⟨e_20, E_e_20, h⟩ := bind_some h
      refine g_yes (h10.trans (congrArg V.bool hg5)) (gv (.ref .sh 0 [] (ji e_20)) (ev_idx (t := .sh) (lo := 0) (xs := x_1) h11 h12 E_e_20 rfl rfl) fun h13 => ?_)
      refine g_yes (h10.trans (congrArg V.bool hg5)) (g1 13 (ji e_20) h13 fun h14 => ?_)
      refine g_yes (h10.trans (congrArg V.bool hg5)) (gm h1 fun h15 => ?_)
      refine g_yes (h10.trans (congrArg V.bool hg5)) (g2 14 15 (jb (decide (e_20 < x_2))) h14 h15 fun h16 => ?_)
      refine g2 10 16 (jb (decide (e_20 < x_2))) (h10.trans (congrArg V.bool hg5)) h16 fun h17 => ?_
      refine gq ?_
      exact t_f146_j2 H x_1 x_2 x_6 (s_l1Put_l1 F x_1 x_2 k) ih (decide (e_20 < x_2)) _ ⟨h0, h1, h4, h5, h17⟩ h
    refine g_no (h10.trans (congrArg V.bool hg5)) ?_
    refine g_no (h10.trans (congrArg V.bool hg5)) ?_
    refine g_no (h10.trans (congrArg V.bool hg5)) ?_
    refine g_no (h10.trans (congrArg V.bool hg5)) ?_
    refine g_no (h10.trans (congrArg V.bool hg5)) ?_
    refine g_no (h10.trans (congrArg V.bool hg5)) ?_
    refine g2 10 16 (jb false) (h10.trans (congrArg V.bool hg5)) (rfl : (_ : V) = (.tup [])) fun h17 => ?_
    refine gq ?_
    exact t_f146_j2 H x_1 x_2 x_6 (s_l1Put_l1 F x_1 x_2 k) ih false _ ⟨h0, h1, h4, h5, h17⟩ h
def s_l1Put (F : Nat) (x_1 : (List Int)) (x_2 : Int) : Option (List Int) :=
  s_l1Put_l1 F x_1 x_2 F 0
theorem t146 (H : H146 D σ F) (x_1 : (List Int)) (x_2 : Int) (s : Nat → V) (hs : Facts [(0, (eL x_1)), (1, (ji x_2))] s) (h : s_l1Put F x_1 x_2 = some r) : Run D σ (R146 r) (.run A146 []) s := by
  unfold s_l1Put at h
  obtain ⟨h0, h1⟩ := hs
  refine .seq (rg (g0 (.sl .nl (Enc.shp Int) 0 []) fun h4 => ?_))
  refine gq (.nsq (.seq (rg (g0 (ji 0) fun h5 => gq (.nsq (.seq (.block (.loop ?_))))))))
  exact t_f146_l1 H x_1 x_2 F 0 _ ⟨h0, h1, h4, h5⟩ h
end
def e146 (F : Nat) : Ent := ent 146 (fun (x : ((List Int) × Int × Unit)) => s_l1Put F x.1 x.2.1) (fun (r : (List Int)) => (Enc.enc (r : (List Int)))) 0 true []
theorem p146 {F : Nat} {x0 : (List Int)} {x1 : Int} {r : (List Int)} (h : s_l1Put F x0 x1 = some r) : (e146 F).den [Enc.enc x0, Enc.enc x1] = some (Enc.enc (r : (List Int))) := ent_put (x0, x1, ()) h
theorem o146 {D : Den} {σ : Sig} {F : Nat} (hF : Fits2 Try.prog D σ) (H : H146 D σ F) : (e146 F).Ok Try.prog := by
  refine ok_of (f := 146) (show unk 146 = 146 from rfl) (fun args r h => ?_) ⟨Try.f146, Try.func146, rfl, rfl⟩
  obtain ⟨⟨x0, x1, _⟩, y, rfl, hy, rfl⟩ := da_open h
  exact contract_run hF (by kernel_rfl) Try.func146 rfl c146 (show 2 ≤ Try.f146.ntmps by decide) (t146 H x0 x1 _ ⟨rfl, rfl⟩ hy)
/- loop.example/g01109/spec.l5Later -/
def A120_2 : AC := (.cond (.t 18) .skip (.exit 0))
def A120_7 : AC := (.cond (.t 30) .skip (.exit 2))
def A120_9 : AC := (.cond (.t 38) (.exit 3) .skip)
def A120_11 : AC := (.cond (.t 44) (.reg [.clr [50, 51]] [(jm 45 8), (jm 46 10), (jm 47 11), ((jv 48 (.idx (.t 46) (.t 47) 1))), ((jv 49 (.load .s (.t 48)))), (.mk (some 50) none false (.lit (.int .i64 (.ofNat 0)) 1 [(0, 0, (.t 49))])), (.mk (some 51) none false (.app .s (.t 45) (.t 50))), (jm 8 51)] [.home 51 8]) (.reg [.frz 7] [(jm 52 7), (jm 53 10), (jm 54 11), ((jv 55 (.idx (.t 53) (.t 54) 1))), ((jv 56 (.load .s (.t 55)))), (.mk (some 57) none false (.call (.k (.fn 146 [] [])) [(.t 52), (.t 56)])), (jm 7 57)] []))
def A120_10 : AC := (.seq (.reg [] [(jm 39 1), (jm 40 10), (jm 41 11), ((jv 42 (.idx (.t 40) (.t 41) 1))), ((jv 43 (.load .s (.t 42)))), (.mk (some 44) none false (.call (.k (.fn 74 [] [])) [(.t 39), (.t 43)]))] []) A120_11)
def A120_12 : AC := (.reg [] [(jm 31 11), ((jv 32 (.bin .add (.t 31) (jn 1)))), (jm 11 32)] [])
def A120_8 : AC := (.seq (.block 3 (.seq (.seq (.reg [] [(jm 33 8), (jm 34 10), (jm 35 11), ((jv 36 (.idx (.t 34) (.t 35) 1))), ((jv 37 (.load .s (.t 36)))), (.mk (some 38) none false (.call (.k (.fn 74 [] [])) [(.t 33), (.t 37)]))] []) A120_9) A120_10)) A120_12)
def A120_6 : AC := (.seq (.seq (.reg [] [(jm 27 11), (jm 28 10), ((jv 29 (.len (.t 28)))), ((jv 30 (.bin .lss (.t 27) (.t 29))))] []) A120_7) A120_8)
def A120_5 : AC := (.block 2 (.loop A120_6))
def A120_4 : AC := (.seq (.reg [] [((jv 11 (.mov (jn 0))))] []) A120_5)
def A120_13 : AC := (.reg [] [(jm 19 9), ((jv 20 (.bin .add (.t 19) (jn 1)))), (jm 9 20)] [])
def A120_3 : AC := (.seq (.block 1 (.seq (.reg [] [((jv 21 (.load (.ag [.s, .p]) (.t 3)))), (jm 22 8), (jm 23 9), ((jv 24 (.idx (.t 22) (.t 23) 1))), ((jv 25 (.load .s (.t 24)))), (.mk (some 26) none false (.call (.k (.fn 169 [] [])) [(.t 21), (.t 25)])), (jm 10 26)] []) A120_4)) A120_13)
def A120_1 : AC := (.seq (.seq (.reg [] [(jm 15 9), (jm 16 8), ((jv 17 (.len (.t 16)))), ((jv 18 (.bin .lss (.t 15) (.t 17))))] []) A120_2) A120_3)
def A120_14 : AC := (.seq (.reg [] [(jm 58 7), (jm 6 58)] []) .ret)
def A120_17 : AC := (.block 0 (.loop A120_1))
def A120_16 : AC := (.seq (.seq (.reg [] [((jv 9 (.mov (jn 0))))] []) A120_17) A120_14)
def A120_15 : AC := (.seq (.reg [.clr [12, 14]] [(.mk (some 12) none false (.lit (.int .i64 (.ofNat 0)) 0 [])), (jm 13 2), (.mk (some 14) none false (.lit (.int .i64 (.ofNat 0)) 1 [(0, 0, (.t 13))])), (jm 7 12), (jm 8 14)] [.home 12 7, .home 14 8, .frz 7]) A120_16)
def A120 : AC := (.seq (.reg [.clr [3]] [(.mk (some 3) none false (.box (.t 0))), ((jv 6 (.mov (.k (.sl .nl .s 0 [])))))] []) A120_15)
def an120 : List An := [{ id := 0, pre := [.clr [3]], ep := [], lin := [], sp := [] }, { id := 1, pre := [.clr [12, 14]], ep := [.home 12 7, .home 14 8, .frz 7], lin := [], sp := [] }, { id := 11, pre := [.clr [50, 51]], ep := [.home 51 8], lin := [], sp := [] }, { id := 12, pre := [.frz 7], ep := [], lin := [], sp := [] }]
theorem c120 : cC Try.prog Try.f120.ntmps an120 (Try.f120.body.getD .skip) = some A120 := by kernel_rfl
structure H120 (D : Den) (σ : Sig) (F : Nat) : Prop where
  c169 : ∀ (x0 : (Int × (List (Int × Int)))) (x1 : Int) r, s_l2Neighbors F x0 x1 = some r → D 169 [Enc.enc x0, Enc.enc x1] = some (Enc.enc (r : (List Int)))
  g169 : σ 169 = some (0, false)
  c74 : ∀ (x0 : (List Int)) (x1 : Int) r, s_l1Has F x0 x1 = some r → D 74 [Enc.enc x0, Enc.enc x1] = some (Enc.enc (r : Bool))
  g74 : σ 74 = some (0, false)
  c146 : ∀ (x0 : (List Int)) (x1 : Int) r, s_l1Put F x0 x1 = some r → D 146 [Enc.enc x0, Enc.enc x1] = some (Enc.enc (r : (List Int)))
  g146 : σ 146 = some (0, true)
abbrev R120 (r : (List Int)) : (Nat → V) → Prop := RR Try.prog [.tmp 6] 0 true (Enc.enc (r : (List Int)))
section
variable {D : Den} {σ : Sig} {F : Nat} {r : (List Int)}
def s_l5Later_j1 (F : Nat) (x_2 : (List Int)) (x_1 : (Int × (List (Int × Int)))) (x_53 : Int) (r_102 : (List Int)) (x_119 : Int) (c1 : (List Int) → (List Int) → Int → Option (List Int)) (c4 : (List Int) → (List Int) → Int → Option (List Int)) (x_142 : (List Int)) (x_143 : (List Int)) : Option (List Int) :=
  c4 x_142 x_143 (w64 (x_119 + 1))
theorem t_f120_j1 (H : H120 D σ F) (x_2 : (List Int)) (x_1 : (Int × (List (Int × Int)))) (x_53 : Int) (r_102 : (List Int)) (x_119 : Int) (c1 : (List Int) → (List Int) → Int → Option (List Int)) (Hc1 : ∀ (x_51 : (List Int)) (x_52 : (List Int)) (x_53 : Int) (s : Nat → V), Facts [(1, (eL x_2)), (3, (.ref (.bx 3) 0 [] (.agg [(ji x_1.1), (Enc.enc (x_1.2 : List (Int × Int)))]))), (6, (.sl .nl (Enc.shp Int) 0 [])), (7, (eL x_51)), (8, (oI 8 [] (.of x_52))), (9, (ji x_53))] s → c1 x_51 x_52 x_53 = some r → Run D σ (R120 r) (.run A120_1 [.lp A120_1, .bk 0, .sq A120_14]) s) (c4 : (List Int) → (List Int) → Int → Option (List Int)) (Hc4 : ∀ (x_117 : (List Int)) (x_118 : (List Int)) (x_119 : Int) (s : Nat → V), Facts [(1, (eL x_2)), (3, (.ref (.bx 3) 0 [] (.agg [(ji x_1.1), (Enc.enc (x_1.2 : List (Int × Int)))]))), (6, (.sl .nl (Enc.shp Int) 0 [])), (7, (eL x_117)), (8, (oI 8 [] (.of x_118))), (9, (ji x_53)), (10, (eL r_102)), (11, (ji x_119))] s → c4 x_117 x_118 x_119 = some r → Run D σ (R120 r) (.run A120_6 [.lp A120_6, .bk 2, .bk 1, .sq A120_13, .lp A120_1, .bk 0, .sq A120_14]) s) (x_142 : (List Int)) (x_143 : (List Int)) (s : Nat → V) (hs : Facts [(1, (eL x_2)), (3, (.ref (.bx 3) 0 [] (.agg [(ji x_1.1), (Enc.enc (x_1.2 : List (Int × Int)))]))), (6, (.sl .nl (Enc.shp Int) 0 [])), (7, (eL x_142)), (8, (oI 8 [] (.of x_143))), (9, (ji x_53)), (10, (eL r_102)), (11, (ji x_119))] s) (h : s_l5Later_j1 F x_2 x_1 x_53 r_102 x_119 c1 c4 x_142 x_143 = some r) : Run D σ (R120 r) (.nrm [.bk 3, .sq A120_12, .lp A120_6, .bk 2, .bk 1, .sq A120_13, .lp A120_1, .bk 0, .sq A120_14]) s := by
  unfold s_l5Later_j1 at h
  obtain ⟨h1, h3, h6, h7, h8, h9, h10, h11⟩ := hs
  refine .nbk (.nsq (rg (gm h11 fun h31 => g1 31 (ji (w64 (x_119 + 1))) h31 fun h32 => ?_)))
  refine gm h32 fun h11 => gz [(1, _), (3, _), (6, _), (7, _), (8, _), (9, _), (10, _), (11, _)] ⟨h1, h3, h6, h7, h8, h9, h10, h11⟩ ?_
  rintro s ⟨h1, h3, h6, h7, h8, h9, h10, h11⟩
  refine .nlp ?_
  exact Hc4 x_142 x_143 (w64 (x_119 + 1)) _ ⟨h1, h3, h6, h7, h8, h9, h10, h11⟩ h
def s_l5Later_l1 (F : Nat) (x_2 : (List Int)) (x_1 : (Int × (List (Int × Int)))) (x_53 : Int) (r_102 : (List Int)) (c1 : (List Int) → (List Int) → Int → Option (List Int)) : Nat → (List Int) → (List Int) → Int → Option (List Int)
  | 0, _, _, _ => none
  | k + 1, x_117, x_118, x_119 =>
    bif decide (x_119 < (r_102.length : Int)) then
      (idx r_102 x_119).bind fun e_134 =>
      (s_l1Has F x_118 e_134).bind fun r_135 =>
      bif r_135 then
        (s_l5Later_l1 F x_2 x_1 x_53 r_102 c1 k) x_117 x_118 (w64 (x_119 + 1))
      else
        (idx r_102 x_119).bind fun e_136 =>
        (s_l1Has F x_2 e_136).bind fun r_137 =>
        bif r_137 then
          (idx r_102 x_119).bind fun e_144 =>
          (appL x_118 [e_144]).bind fun ap_145 =>
          s_l5Later_j1 F x_2 x_1 x_53 r_102 x_119 c1 (s_l5Later_l1 F x_2 x_1 x_53 r_102 c1 k) x_117 ap_145
        else
          (idx r_102 x_119).bind fun e_146 =>
          (s_l1Put F x_117 e_146).bind fun r_147 =>
          s_l5Later_j1 F x_2 x_1 x_53 r_102 x_119 c1 (s_l5Later_l1 F x_2 x_1 x_53 r_102 c1 k) r_147 x_118
    else
      c1 x_117 x_118 (w64 (x_53 + 1))
theorem t_f120_l1 (H : H120 D σ F) (x_2 : (List Int)) (x_1 : (Int × (List (Int × Int)))) (x_53 : Int) (r_102 : (List Int)) (c1 : (List Int) → (List Int) → Int → Option (List Int)) (Hc1 : ∀ (x_51 : (List Int)) (x_52 : (List Int)) (x_53 : Int) (s : Nat → V), Facts [(1, (eL x_2)), (3, (.ref (.bx 3) 0 [] (.agg [(ji x_1.1), (Enc.enc (x_1.2 : List (Int × Int)))]))), (6, (.sl .nl (Enc.shp Int) 0 [])), (7, (eL x_51)), (8, (oI 8 [] (.of x_52))), (9, (ji x_53))] s → c1 x_51 x_52 x_53 = some r → Run D σ (R120 r) (.run A120_1 [.lp A120_1, .bk 0, .sq A120_14]) s) : ∀ (k : Nat) (x_117 : (List Int)) (x_118 : (List Int)) (x_119 : Int) (s : Nat → V), Facts [(1, (eL x_2)), (3, (.ref (.bx 3) 0 [] (.agg [(ji x_1.1), (Enc.enc (x_1.2 : List (Int × Int)))]))), (6, (.sl .nl (Enc.shp Int) 0 [])), (7, (eL x_117)), (8, (oI 8 [] (.of x_118))), (9, (ji x_53)), (10, (eL r_102)), (11, (ji x_119))] s → s_l5Later_l1 F x_2 x_1 x_53 r_102 c1 k x_117 x_118 x_119 = some r → Run D σ (R120 r) (.run A120_6 [.lp A120_6, .bk 2, .bk 1, .sq A120_13, .lp A120_1, .bk 0, .sq A120_14]) s := by
  intro k
  induction k with
  | zero => intro x_117 x_118 x_119 s _ h; exact nomatch (h : (none : Option _) = some r)
  | succ k ih =>
    intro x_117 x_118 x_119 s hs h
    rw [s_l5Later_l1] at h
    obtain ⟨h1, h3, h6, h7, h8, h9, h10, h11⟩ := hs
    refine .seq (.seq (rg (gm h11 fun h27 => gm h10 fun h28 => gv (ji (r_102.length : Int)) (ev_len (xs := r_102) h28) fun h29 => ?_)))
    refine g2 27 29 (jb (decide (x_119 < (r_102.length : Int)))) h27 h29 fun h30 => ?_
    refine gq (.nsq (run_cond (t := decide (x_119 < (r_102.length : Int))) h30 h (fun h => ?_) (fun h => ?_)))
    · refine .skip (.nsq (.seq (.block (.seq (.seq (rg (gm h8 fun h33 => gm h10 fun h34 => gm h11 fun h35 => ?_)))))))
      obtain ⟨e_134, E_e_134, h⟩ := bind_some h
      refine gv (.ref .sh 0 [] (ji e_134)) (ev_idx (t := .sh) (lo := 0) (xs := r_102) h34 h35 E_e_134 rfl rfl) fun h36 => ?_
      refine g1 36 (ji e_134) h36 fun h37 => ?_
      obtain ⟨r_135, E_r_135, h⟩ := bind_some h
      refine g_call (m := 0) (al := false) (r := (Enc.enc (r_135 : Bool))) [Enc.enc (x_118 : (List Int)), Enc.enc (e_134 : Int)] (ta_cons (v := (oI 8 [] (.of x_118))) h33 rfl (erase_encO (o := .of x_118)) (ta_cons (v := (ji e_134)) h37 rfl rfl ta_nil)) (H.c74 _ _ _ E_r_135) H.g74 rfl rfl rfl rfl ?_
      refine gq (.nsq (run_cond (t := r_135) rfl h (fun h => ?_) (fun h => ?_)))
      · refine .exit (.esq (.ebk (.nsq (rg (gm h11 fun h31 => g1 31 (ji (w64 (x_119 + 1))) h31 fun h32 => ?_)))))
        refine gm h32 fun h11 => gq (.nlp ?_)
        exact ih x_117 x_118 (w64 (x_119 + 1)) _ ⟨h1, h3, h6, h7, h8, h9, h10, h11⟩ h
      refine .skip (.nsq (.seq (rg (gm h1 fun h39 => gm h10 fun h40 => gm h11 fun h41 => ?_))))
      obtain ⟨e_136, E_e_136, h⟩ := bind_some h
      refine gv (.ref .sh 0 [] (ji e_136)) (ev_idx (t := .sh) (lo := 0) (xs := r_102) h40 h41 E_e_136 rfl rfl) fun h42 => ?_
      refine g1 42 (ji e_136) h42 fun h43 => ?_
      obtain ⟨r_137, E_r_137, h⟩ := bind_some h
      refine g_call (m := 0) (al := false) (r := (Enc.enc (r_137 : Bool))) [Enc.enc (x_2 : (List Int)), Enc.enc (e_136 : Int)] (ta_cons (v := (eL x_2)) h39 rfl (Enc.erase_enc (x_2 : (List Int))) (ta_cons (v := (ji e_136)) h43 rfl rfl ta_nil)) (H.c74 _ _ _ E_r_137) H.g74 rfl rfl rfl rfl ?_
      refine gq (.nsq (run_cond (t := r_137) rfl h (fun h => ?_) (fun h => ?_)))
      · refine run_reg ?_
        refine e_clr ?_
        refine ez [(1, _), (3, _), (6, _), (7, _), (8, _), (9, _), (10, _), (11, _), (50, _), (51, _)] ⟨(keep_clear (pk := [50, 51]) h1 rfl me), (keep_clear (pk := [50, 51]) h3 rfl (map_bx rfl (map_agg (maps_cons mi (maps_cons me maps_nil))))), (keep_clear (pk := [50, 51]) h6 rfl rfl), (keep_clear (pk := [50, 51]) h7 rfl me), (keep_clear (pk := [50, 51]) h8 rfl (map_encO (r := 8) (p := []) rfl rfl)), (keep_clear (pk := [50, 51]) h9 rfl mi), (keep_clear (pk := [50, 51]) h10 rfl me), (keep_clear (pk := [50, 51]) h11 rfl mi), (gone_clear (pk := [50, 51]) (t := 50) rfl), (gone_clear (pk := [50, 51]) (t := 51) rfl)⟩ ?_
        rintro s ⟨h1, h3, h6, h7, h8, h9, h10, h11, h50, h51⟩
        refine gm h8 fun h45 => gm h10 fun h46 => gm h11 fun h47 => ?_
        obtain ⟨e_144, E_e_144, h⟩ := bind_some h
        refine gv (.ref .sh 0 [] (ji e_144)) (ev_idx (t := .sh) (lo := 0) (xs := r_102) h46 h47 E_e_144 rfl rfl) fun h48 => ?_
        refine g1 48 (ji e_144) h48 fun h49 => ?_
        refine g_litL [(49, (ji e_144))] [Enc.enc (e_144 : Int)] h49 rfl rfl h50 ?_
        obtain ⟨ap_145, E_ap_145, h⟩ := bind_some h
        refine g_app (q := 8) (p := []) (o := (.of (x_118 : List Int))) (ys := ([e_144] : List Int)) (t2 := (.at 50 [])) (lo2 := 0) h45 rfl rfl h51 (appN_L (o := (.of (x_118 : List Int))) E_ap_145 trivial) (fun s_75 ha_75 => ?_)
        refine gm (rfl : (_ : V) = (oI 51 [] (.of ap_145))) fun h8 => ?_
        refine g_end ?_
        refine e_home (r := 51) (x := 8) (v := _) h8 rfl (fun s_76 hg_76 => ?_)
        refine ez [(1, (eL x_2)), (3, (.ref (.bx 3) 0 [] (.agg [(ji x_1.1), (Enc.enc (x_1.2 : List (Int × Int)))]))), (6, (.sl .nl (Enc.shp Int) 0 [])), (7, (eL x_117)), (8, (oI 8 [] (.of ap_145))), (9, (ji x_53)), (10, (eL r_102)), (11, (ji x_119))] ⟨(hg_76 1 _ _ (show s_75 1 = (eL x_2) from keep_app ha_75 h1 me) me), (hg_76 3 _ _ (show s_75 3 = (.ref (.bx 3) 0 [] (.agg [(ji x_1.1), (Enc.enc (x_1.2 : List (Int × Int)))])) from keep_app ha_75 h3 (map_bx rfl (map_agg (maps_cons mi (maps_cons me maps_nil))))) (map_bx rfl (map_agg (maps_cons mi (maps_cons me maps_nil))))), (hg_76 6 _ (.sl .nl (Enc.shp Int) 0 []) (show s_75 6 = (.sl .nl (Enc.shp Int) 0 []) from keep_app ha_75 h6 rfl) rfl), (hg_76 7 _ _ (show s_75 7 = (eL x_117) from keep_app ha_75 h7 me) me), (hg_76 8 _ _ h8 (map_encO (r := 51) (p := []) rfl rfl)), (hg_76 9 _ _ (show s_75 9 = (ji x_53) from keep_app ha_75 h9 mi) mi), (hg_76 10 _ _ (show s_75 10 = (eL r_102) from keep_app ha_75 h10 me) me), (hg_76 11 _ _ (show s_75 11 = (ji x_119) from keep_app ha_75 h11 mi) mi)⟩ ?_
        rintro s ⟨h1, h3, h6, h7, h8, h9, h10, h11⟩
        exact t_f120_j1 H x_2 x_1 x_53 r_102 x_119 c1 Hc1 (s_l5Later_l1 F x_2 x_1 x_53 r_102 c1 k) ih x_117 ap_145 _ ⟨h1, h3, h6, h7, h8, h9, h10, h11⟩ h
      refine run_reg ?_
      refine e_frz (x := 7) (v := (eL x_117)) [] (by exact h7) (Enc.toks_enc (x_117 : List Int)) (fun s_77 hg_77 => ?_)
      refine ez [(1, _), (3, _), (6, _), (7, _), (8, _), (9, _), (10, _), (11, _)] ⟨(hg_77 1 (eL x_2) (eL x_2) h1 (frz_none _)), (hg_77 3 (.ref (.bx 3) 0 [] (.agg [(ji x_1.1), (Enc.enc (x_1.2 : List (Int × Int)))])) (.ref (.bx 3) 0 [] (.agg [(ji x_1.1), (Enc.enc (x_1.2 : List (Int × Int)))])) h3 (frz_none _)), (hg_77 6 (.sl .nl (Enc.shp Int) 0 []) (.sl .nl (Enc.shp Int) 0 []) h6 (frz_none _)), (hg_77 7 (eL x_117) (eL x_117) h7 (frz_none _)), (hg_77 8 (oI 8 [] (.of x_118)) (oI 8 [] (.of x_118)) h8 (frz_none _)), (hg_77 9 (ji x_53) (ji x_53) h9 (frz_none _)), (hg_77 10 (eL r_102) (eL r_102) h10 (frz_none _)), (hg_77 11 (ji x_119) (ji x_119) h11 (frz_none _))⟩ ?_
      rintro s ⟨h1, h3, h6, h7, h8, h9, h10, h11⟩
      refine gm h7 fun h52 => gm h10 fun h53 => gm h11 fun h54 => ?_
      obtain ⟨e_146, E_e_146, h⟩ := bind_some h
      refine gv (.ref .sh 0 [] (ji e_146)) (ev_idx (t := .sh) (lo := 0) (xs := r_102) h53 h54 E_e_146 rfl rfl) fun h55 => ?_
      refine g1 55 (ji e_146) h55 fun h56 => ?_
      obtain ⟨r_147, E_r_147, h⟩ := bind_some h
      refine g_call (m := 0) (al := true) (r := (Enc.enc (r_147 : (List Int)))) [Enc.enc (x_117 : (List Int)), Enc.enc (e_146 : Int)] (ta_cons (v := (eL x_117)) h52 rfl (Enc.erase_enc (x_117 : (List Int))) (ta_cons (v := (ji e_146)) h56 rfl rfl ta_nil)) (H.c146 _ _ _ E_r_147) H.g146 (hal_of (ht_cons (v := (eL x_117)) h52 rfl rfl (ht_cons (v := (ji e_146)) h56 rfl rfl ht_nil))) rfl rfl rfl ?_
      refine gm (rfl : (_ : V) = (eL r_147)) fun h7 => ?_
      refine gz [(1, _), (3, _), (6, _), (7, _), (8, _), (9, _), (10, _), (11, _)] ⟨h1, h3, h6, h7, h8, h9, h10, h11⟩ ?_
      rintro s ⟨h1, h3, h6, h7, h8, h9, h10, h11⟩
      exact t_f120_j1 H x_2 x_1 x_53 r_102 x_119 c1 Hc1 (s_l5Later_l1 F x_2 x_1 x_53 r_102 c1 k) ih r_147 x_118 _ ⟨h1, h3, h6, h7, h8, h9, h10, h11⟩ h
    refine .exit (.esq (.elp (.ebk (.nbk (.nsq (rg (gm h9 fun h19 => g1 19 (ji (w64 (x_53 + 1))) h19 fun h20 => ?_)))))))
    refine gm h20 fun h9 => gq (.nlp ?_)
    exact Hc1 x_117 x_118 (w64 (x_53 + 1)) _ ⟨h1, h3, h6, h7, h8, h9⟩ h
def s_l5Later_l2 (F : Nat) (x_2 : (List Int)) (x_1 : (Int × (List (Int × Int))))  : Nat → (List Int) → (List Int) → Int → Option (List Int)
  | 0, _, _, _ => none
  | k + 1, x_51, x_52, x_53 =>
    bif decide (x_53 < (x_52.length : Int)) then
      (idx x_52 x_53).bind fun e_101 =>
      (s_l2Neighbors F x_1 e_101).bind fun r_102 =>
      s_l5Later_l1 F x_2 x_1 x_53 r_102 (s_l5Later_l2 F x_2 x_1 k) F x_51 x_52 0
    else
      some x_51
theorem t_f120_l2 (H : H120 D σ F) (x_2 : (List Int)) (x_1 : (Int × (List (Int × Int))))  : ∀ (k : Nat) (x_51 : (List Int)) (x_52 : (List Int)) (x_53 : Int) (s : Nat → V), Facts [(1, (eL x_2)), (3, (.ref (.bx 3) 0 [] (.agg [(ji x_1.1), (Enc.enc (x_1.2 : List (Int × Int)))]))), (6, (.sl .nl (Enc.shp Int) 0 [])), (7, (eL x_51)), (8, (oI 8 [] (.of x_52))), (9, (ji x_53))] s → s_l5Later_l2 F x_2 x_1 k x_51 x_52 x_53 = some r → Run D σ (R120 r) (.run A120_1 [.lp A120_1, .bk 0, .sq A120_14]) s := by
  intro k
  induction k with
  | zero => intro x_51 x_52 x_53 s _ h; exact nomatch (h : (none : Option _) = some r)
  | succ k ih =>
    intro x_51 x_52 x_53 s hs h
    rw [s_l5Later_l2] at h
    obtain ⟨h1, h3, h6, h7, h8, h9⟩ := hs
    refine .seq (.seq (rg (gm h9 fun h15 => gm h8 fun h16 => gv (ji (x_52.length : Int)) (ev_lenO (o := .of x_52) h16) fun h17 => ?_)))
    refine g2 15 17 (jb (decide (x_53 < (x_52.length : Int)))) h15 h17 fun h18 => ?_
    refine gq (.nsq (run_cond (t := decide (x_53 < (x_52.length : Int))) h18 h (fun h => ?_) (fun h => ?_)))
    · refine .skip (.nsq (.seq (.block (.seq (rg (g1 3 (.agg [(ji x_1.1), (Enc.enc (x_1.2 : List (Int × Int)))]) h3 fun h21 => ?_))))))
      refine gm h8 fun h22 => gm h9 fun h23 => ?_
      obtain ⟨e_101, E_e_101, h⟩ := bind_some h
      refine gv (.ref (.at 8 []) x_53.toNat [] (ji e_101)) (ev_idxO (o := (.of x_52)) h22 h23 E_e_101 rfl) fun h24 => ?_
      refine g1 24 (ji e_101) h24 fun h25 => ?_
      obtain ⟨r_102, E_r_102, h⟩ := bind_some h
      refine g_call (m := 0) (al := false) (r := (Enc.enc (r_102 : (List Int)))) [Enc.enc (x_1 : (Int × (List (Int × Int)))), Enc.enc (e_101 : Int)] (ta_cons (v := (.agg [(ji x_1.1), (Enc.enc (x_1.2 : List (Int × Int)))])) h21 rfl (Enc.erase_enc (x_1 : (Int × (List (Int × Int))))) (ta_cons (v := (ji e_101)) h25 rfl rfl ta_nil)) (H.c169 _ _ _ E_r_102) H.g169 rfl rfl rfl rfl ?_
      refine gm (rfl : (_ : V) = (eL r_102)) fun h10 => ?_
      refine gq (.nsq (.seq (rg (g0 (ji 0) fun h11 => gq (.nsq (.block (.loop ?_)))))))
      exact t_f120_l1 H x_2 x_1 x_53 r_102 (s_l5Later_l2 F x_2 x_1 k) ih F x_51 x_52 0 _ ⟨h1, h3, h6, h7, h8, h9, h10, h11⟩ h
    refine .exit (.esq (.elp (.ebk (.nsq (.seq (rg (gm h7 fun h58 => gm h58 fun h6 => gq (.nsq (.ret ?_)))))))))
    have hr := Option.some.inj h
    subst hr
    exact rrA (res_tmp h6) (fin_ret1 (fin_enc (x := (x_51 : (List Int)))))
def s_l5Later (F : Nat) (x_1 : (Int × (List (Int × Int)))) (x_2 : (List Int)) (x_3 : Int) : Option (List Int) :=
  s_l5Later_l2 F x_2 x_1 F [] [x_3] 0
theorem t120 (H : H120 D σ F) (x_1 : (Int × (List (Int × Int)))) (x_2 : (List Int)) (x_3 : Int) (s : Nat → V) (hs : Facts [(0, (.agg [(ji x_1.1), (Enc.enc (x_1.2 : List (Int × Int)))])), (1, (eL x_2)), (2, (ji x_3))] s) (h : s_l5Later F x_1 x_2 x_3 = some r) : Run D σ (R120 r) (.run A120 []) s := by
  unfold s_l5Later at h
  obtain ⟨h0, h1, h2⟩ := hs
  refine .seq (run_reg ?_)
  refine e_clr ?_
  refine ez [(0, _), (1, _), (2, _), (3, _)] ⟨(keep_clear (pk := [3]) h0 rfl (map_agg (maps_cons mi (maps_cons me maps_nil)))), (keep_clear (pk := [3]) h1 rfl me), (keep_clear (pk := [3]) h2 rfl mi), (gone_clear (pk := [3]) (t := 3) rfl)⟩ ?_
  rintro s ⟨h0, h1, h2, h3⟩
  refine g_box (.agg [(ji x_1.1), (Enc.enc (x_1.2 : List (Int × Int)))]) (rd_of h0 rfl) h3 rfl ?_
  refine g0 (.sl .nl (Enc.shp Int) 0 []) fun h6 => ?_
  refine gq (.nsq (.seq (run_reg ?_)))
  refine e_clr ?_
  refine ez [(1, _), (2, _), (3, _), (6, _), (12, _), (14, _)] ⟨(keep_clear (pk := [12, 14]) h1 rfl me), (keep_clear (pk := [12, 14]) h2 rfl mi), (keep_clear (pk := [12, 14]) rfl rfl (map_bx rfl (map_agg (maps_cons mi (maps_cons me maps_nil))))), (keep_clear (pk := [12, 14]) h6 rfl rfl), (gone_clear (pk := [12, 14]) (t := 12) rfl), (gone_clear (pk := [12, 14]) (t := 14) rfl)⟩ ?_
  rintro s ⟨h1, h2, h3, h6, h12, h14⟩
  refine g_litL [] [] trivial rfl rfl h12 ?_
  refine gm h2 fun h13 => g_litL [(13, (ji x_3))] [Enc.enc (x_3 : Int)] h13 rfl rfl h14 ?_
  refine gm (rfl : (_ : V) = (oI 12 [] (.of []))) fun h7 => ?_
  refine gm (rfl : (_ : V) = (oI 14 [] (.of [x_3]))) fun h8 => ?_
  refine g_end ?_
  refine e_home (r := 12) (x := 7) (v := _) h7 rfl (fun s_3 hg_3 => ?_)
  refine e_home (r := 14) (x := 8) (v := _) (by exact (hg_3 8 _ _ h8 (map_encO (r := 14) (p := []) rfl rfl))) rfl (fun s_4 hg_4 => ?_)
  refine e_frz (x := 7) (v := (oI 7 [] (.of []))) [(.at 7 [])] (by exact (hg_4 7 _ _ (hg_3 7 _ _ h7 (map_encO (r := 12) (p := []) rfl rfl)) (map_encO (r := 7) (p := []) rfl rfl))) toks_ownL (fun s_5 hg_5 => ?_)
  refine ez [(1, (eL x_2)), (3, (.ref (.bx 3) 0 [] (.agg [(ji x_1.1), (Enc.enc (x_1.2 : List (Int × Int)))]))), (6, (.sl .nl (Enc.shp Int) 0 [])), (7, (eL [])), (8, (oI 8 [] (.of [x_3])))] ⟨(hg_5 1 (eL x_2) (eL x_2) (hg_4 1 _ _ (hg_3 1 _ _ h1 me) me) (Enc.frz_enc _ (x_2 : List Int))), (hg_5 3 (.ref (.bx 3) 0 [] (.agg [(ji x_1.1), (Enc.enc (x_1.2 : List (Int × Int)))])) (.ref (.bx 3) 0 [] (.agg [(ji x_1.1), (Enc.enc (x_1.2 : List (Int × Int)))])) (hg_4 3 _ _ (hg_3 3 _ _ h3 (map_bx rfl (map_agg (maps_cons mi (maps_cons me maps_nil))))) (map_bx rfl (map_agg (maps_cons mi (maps_cons me maps_nil))))) (frz_ref_ne rfl (frz_agg (frzs_cons rfl (frzs_cons (Enc.frz_enc _ (x_1.2 : List (Int × Int))) rfl))) rfl)), (hg_5 6 (.sl .nl (Enc.shp Int) 0 []) (.sl .nl (Enc.shp Int) 0 []) (hg_4 6 _ (.sl .nl (Enc.shp Int) 0 []) (hg_3 6 _ (.sl .nl (Enc.shp Int) 0 []) h6 rfl) rfl) rfl), (hg_5 7 (oI 7 [] (.of [])) (eL []) (hg_4 7 _ _ (hg_3 7 _ _ h7 (map_encO (r := 12) (p := []) rfl rfl)) (map_encO (r := 7) (p := []) rfl rfl)) frz_own), (hg_5 8 (oI 8 [] (.of [x_3])) (oI 8 [] (.of [x_3])) (hg_4 8 _ _ (hg_3 8 _ _ h8 (map_encO (r := 14) (p := []) rfl rfl)) (map_encO (r := 14) (p := []) rfl rfl)) (frz_own_ne rfl rfl))⟩ ?_
  rintro s ⟨h1, h3, h6, h7, h8⟩
  refine .nsq (.seq (.seq (rg (g0 (ji 0) fun h9 => gq (.nsq (.block (.loop ?_)))))))
  exact t_f120_l2 H x_2 x_1 F [] [x_3] 0 _ ⟨h1, h3, h6, h7, h8, h9⟩ h
end
def e120 (F : Nat) : Ent := ent 120 (fun (x : ((Int × (List (Int × Int))) × (List Int) × Int × Unit)) => s_l5Later F x.1 x.2.1 x.2.2.1) (fun (r : (List Int)) => (Enc.enc (r : (List Int)))) 0 true []
theorem p120 {F : Nat} {x0 : (Int × (List (Int × Int)))} {x1 : (List Int)} {x2 : Int} {r : (List Int)} (h : s_l5Later F x0 x1 x2 = some r) : (e120 F).den [Enc.enc x0, Enc.enc x1, Enc.enc x2] = some (Enc.enc (r : (List Int))) := ent_put (x0, x1, x2, ()) h
theorem o120 {D : Den} {σ : Sig} {F : Nat} (hF : Fits2 Try.prog D σ) (H : H120 D σ F) : (e120 F).Ok Try.prog := by
  refine ok_of (f := 120) (show unk 120 = 120 from rfl) (fun args r h => ?_) ⟨Try.f120, Try.func120, rfl, rfl⟩
  obtain ⟨⟨x0, x1, x2, _⟩, y, rfl, hy, rfl⟩ := da_open h
  exact contract_run hF (by kernel_rfl) Try.func120 rfl c120 (show 3 ≤ Try.f120.ntmps by decide) (t120 H x0 x1 x2 _ ⟨rfl, rfl, rfl⟩ hy)
/- loop.example/g01109/spec.l5Made -/
def A99_2 : AC := (.cond (.t 15) .skip (.exit 0))
def A99_8 : AC := (.cond (.t 43) .skip (.exit 2))
def A99_10 : AC := (.cond (.t 56) (.seq (.reg [.clr [62, 63]] [((jv 57 (.fld (.t 5) 1 1))), ((jv 58 (.load .p (.t 57)))), (jm 59 6), (jm 60 8), ((jv 61 (.bld (.agg [(.int .i64 (.ofNat 0)), (.int .i64 (.ofNat 0))]) [(0, 0, (.t 59)), (1, 1, (.t 60))]))), (.mk (some 62) none false (.lit (.agg [(.int .i64 (.ofNat 0)), (.int .i64 (.ofNat 0))]) 1 [(0, 0, (.t 61))])), (.mk (some 63) none false (.app (.ag [.s, .s]) (.t 58) (.t 62))), ((jv 64 (.fld (.t 5) 1 1))), (.mk none none false (.store .p (.t 64) (.t 63)))] [.drp 10, .home 63 10]) (.exit 2)) .skip)
def A99_11 : AC := (.reg [] [(jm 44 8), ((jv 45 (.bin .add (.t 44) (jn 1)))), (jm 8 45)] [])
def A99_9 : AC := (.seq (.block 3 (.seq (.reg [] [(jm 46 7), (jm 47 1), (jm 48 8), ((jv 49 (.idx (.t 47) (.t 48) 1))), ((jv 50 (.load .s (.t 49)))), (.mk (some 51) none false (.call (.k (.fn 74 [] [])) [(.t 46), (.t 50)])), (jm 52 51), ((jg 53 52 false (.mov (.t 7)))), ((jg 54 52 false (.len (.t 53)))), ((jg 55 52 false (.bin .eql (.t 54) (jn 0)))), ((jv 56 (.pick (.t 52) (.k (.bool true)) (.t 55))))] []) A99_10)) A99_11)
def A99_7 : AC := (.seq (.seq (.reg [] [(jm 40 8), (jm 41 1), ((jv 42 (.len (.t 41)))), ((jv 43 (.bin .lss (.t 40) (.t 42))))] []) A99_8) A99_9)
def A99_6 : AC := (.block 2 (.loop A99_7))
def A99_5 : AC := (.seq (.reg [] [(jm 38 6), ((jv 39 (.bin .add (.t 38) (jn 1)))), (jm 8 39)] []) A99_6)
def A99_4 : AC := (.seq (.reg [.clr [35, 36]] [((jv 27 (.fld (.t 5) 0 0))), ((jv 28 (.load .p (.t 27)))), (jm 29 7), (jm 30 1), (jm 31 6), ((jv 32 (.idx (.t 30) (.t 31) 1))), ((jv 33 (.load .s (.t 32)))), (.mk (some 34) none false (.call (.k (.fn 146 [] [])) [(.t 29), (.t 33)])), (.mk (some 35) none false (.lit (.sl .nl .s 0 []) 1 [(0, 0, (.t 34))])), (.mk (some 36) none false (.app .p (.t 28) (.t 35))), ((jv 37 (.fld (.t 5) 0 0))), (.mk none none false (.store .p (.t 37) (.t 36)))] [.drp 9, .home 36 9]) A99_5)
def A99_12 : AC := (.reg [] [(jm 16 6), ((jv 17 (.bin .add (.t 16) (jn 1)))), (jm 6 17)] [])
def A99_3 : AC := (.seq (.block 1 (.seq (.reg [] [((jv 18 (.load (.ag [.s, .p]) (.t 2)))), (jm 19 1), (jm 20 6), ((jv 21 (.slice (.t 19) none (some (.t 20)) 1))), (jm 22 1), (jm 23 6), ((jv 24 (.idx (.t 22) (.t 23) 1))), ((jv 25 (.load .s (.t 24)))), (.mk (some 26) none false (.call (.k (.fn 120 [] [])) [(.t 18), (.t 21), (.t 25)])), (jm 7 26)] []) A99_4)) A99_12)
def A99_1 : AC := (.seq (.seq (.reg [] [(jm 12 6), (jm 13 1), ((jv 14 (.len (.t 13)))), ((jv 15 (.bin .lss (.t 12) (.t 14))))] []) A99_2) A99_3)
def A99_13 : AC := (.seq (.reg [] [((jv 65 (.load (.ag [.p, .p]) (.t 5)))), (.mk none none false (.store (.ag [.p, .p]) (.t 4) (.t 65)))] []) .ret)
def A99_16 : AC := (.block 0 (.loop A99_1))
def A99_15 : AC := (.seq (.seq (.reg [] [((jv 6 (.mov (jn 0))))] []) A99_16) A99_13)
def A99_14 : AC := (.seq (.reg [.clr [9, 10, 5]] [(.mk (some 9) none false (.lit (.sl .nl .s 0 []) 0 [])), (.mk (some 10) none false (.lit (.agg [(.int .i64 (.ofNat 0)), (.int .i64 (.ofNat 0))]) 0 [])), ((jv 11 (.bld (.agg [(.sl .nl .p 0 []), (.sl .nl (.ag [.s, .s]) 0 [])]) [(0, 0, (.t 9)), (1, 1, (.t 10))]))), (.mk (some 5) none false (.alloc (.agg [(.sl .nl .p 0 []), (.sl .nl (.ag [.s, .s]) 0 [])]))), (.mk none none false (.store (.ag [.p, .p]) (.t 5) (.t 11)))] []) A99_15)
def A99 : AC := (.seq (.reg [.clr [2, 4]] [(.mk (some 2) none false (.box (.t 0))), (.mk (some 4) none false (.alloc (.agg [(.sl .nl .p 0 []), (.sl .nl (.ag [.s, .s]) 0 [])])))] []) A99_14)
def an99 : List An := [{ id := 0, pre := [.clr [2, 4]], ep := [], lin := [], sp := [] }, { id := 1, pre := [.clr [9, 10, 5]], ep := [], lin := [], sp := [] }, { id := 6, pre := [.clr [35, 36]], ep := [.drp 9, .home 36 9], lin := [], sp := [] }, { id := 11, pre := [.clr [62, 63]], ep := [.drp 10, .home 63 10], lin := [], sp := [] }]
theorem c99 : cC Try.prog Try.f99.ntmps an99 (Try.f99.body.getD .skip) = some A99 := by kernel_rfl
structure H99 (D : Den) (σ : Sig) (F : Nat) : Prop where
  c120 : ∀ (x0 : (Int × (List (Int × Int)))) (x1 : (List Int)) (x2 : Int) r, s_l5Later F x0 x1 x2 = some r → D 120 [Enc.enc x0, Enc.enc x1, Enc.enc x2] = some (Enc.enc (r : (List Int)))
  g120 : σ 120 = some (0, true)
  c146 : ∀ (x0 : (List Int)) (x1 : Int) r, s_l1Put F x0 x1 = some r → D 146 [Enc.enc x0, Enc.enc x1] = some (Enc.enc (r : (List Int)))
  g146 : σ 146 = some (0, true)
  c74 : ∀ (x0 : (List Int)) (x1 : Int) r, s_l1Has F x0 x1 = some r → D 74 [Enc.enc x0, Enc.enc x1] = some (Enc.enc (r : Bool))
  g74 : σ 74 = some (0, false)
abbrev R99 (r : ((List (List Int)) × (List (Int × Int)))) : (Nat → V) → Prop := RR Try.prog [.cell 4 49] 0 true (Enc.enc (r : ((List (List Int)) × (List (Int × Int)))))
section
variable {D : Den} {σ : Sig} {F : Nat} {r : ((List (List Int)) × (List (Int × Int)))}
def s_l5Made_j1 (F : Nat) (x_2 : (List Int)) (x_1 : (Int × (List (Int × Int)))) (ap_67 : (List (List Int))) (x_32 : (List (Int × Int))) (x_33 : Int) (r_64 : (List Int)) (x_75 : Int) (c1 : (List (List Int)) → (List (Int × Int)) → Int → Option ((List (List Int)) × (List (Int × Int)))) (c4 : Int → Option ((List (List Int)) × (List (Int × Int)))) (x_85 : Bool) : Option ((List (List Int)) × (List (Int × Int))) :=
  bif x_85 then
    (appL x_32 [(x_33, x_75)]).bind fun ap_87 =>
    c1 ap_67 ap_87 (w64 (x_33 + 1))
  else
    c4 (w64 (x_75 + 1))
theorem t_f99_j1 (H : H99 D σ F) (x_2 : (List Int)) (x_1 : (Int × (List (Int × Int)))) (ap_67 : (List (List Int))) (x_32 : (List (Int × Int))) (x_33 : Int) (r_64 : (List Int)) (x_75 : Int) (c1 : (List (List Int)) → (List (Int × Int)) → Int → Option ((List (List Int)) × (List (Int × Int)))) (Hc1 : ∀ (x_31 : (List (List Int))) (x_32 : (List (Int × Int))) (x_33 : Int) (s : Nat → V), Facts [(1, (eL x_2)), (2, (.ref (.bx 2) 0 [] (.agg [(ji x_1.1), (Enc.enc (x_1.2 : List (Int × Int)))]))), (4, (.ref (.bx 4) 0 [] (.agg [(.sl .nl (Enc.shp (List Int)) 0 []), (.sl .nl (Enc.shp (Int × Int)) 0 [])]))), (5, (.ref (.bx 5) 0 [] (.agg [(encO (.at 9 []) (.of (x_31 : List (List Int)))), (encO (.at 10 []) (.of (x_32 : List (Int × Int))))]))), (6, (ji x_33))] s → c1 x_31 x_32 x_33 = some r → Run D σ (R99 r) (.run A99_1 [.lp A99_1, .bk 0, .sq A99_13]) s) (c4 : Int → Option ((List (List Int)) × (List (Int × Int)))) (Hc4 : ∀ (x_75 : Int) (s : Nat → V), Facts [(1, (eL x_2)), (2, (.ref (.bx 2) 0 [] (.agg [(ji x_1.1), (Enc.enc (x_1.2 : List (Int × Int)))]))), (4, (.ref (.bx 4) 0 [] (.agg [(.sl .nl (Enc.shp (List Int)) 0 []), (.sl .nl (Enc.shp (Int × Int)) 0 [])]))), (5, (.ref (.bx 5) 0 [] (.agg [(encO (.at 9 []) (.of (ap_67 : List (List Int)))), (encO (.at 10 []) (.of (x_32 : List (Int × Int))))]))), (6, (ji x_33)), (7, (eL r_64)), (8, (ji x_75))] s → c4 x_75 = some r → Run D σ (R99 r) (.run A99_7 [.lp A99_7, .bk 2, .bk 1, .sq A99_12, .lp A99_1, .bk 0, .sq A99_13]) s) (x_85 : Bool) (s : Nat → V) (hs : Facts [(1, (eL x_2)), (2, (.ref (.bx 2) 0 [] (.agg [(ji x_1.1), (Enc.enc (x_1.2 : List (Int × Int)))]))), (4, (.ref (.bx 4) 0 [] (.agg [(.sl .nl (Enc.shp (List Int)) 0 []), (.sl .nl (Enc.shp (Int × Int)) 0 [])]))), (5, (.ref (.bx 5) 0 [] (.agg [(encO (.at 9 []) (.of (ap_67 : List (List Int)))), (encO (.at 10 []) (.of (x_32 : List (Int × Int))))]))), (6, (ji x_33)), (7, (eL r_64)), (8, (ji x_75)), (56, (jb x_85))] s) (h : s_l5Made_j1 F x_2 x_1 ap_67 x_32 x_33 r_64 x_75 c1 c4 x_85 = some r) : Run D σ (R99 r) (.nrm [.sq A99_10, .bk 3, .sq A99_11, .lp A99_7, .bk 2, .bk 1, .sq A99_12, .lp A99_1, .bk 0, .sq A99_13]) s := by
  unfold s_l5Made_j1 at h
  obtain ⟨h1, h2, h4, h5, h6, h7, h8, h56⟩ := hs
  refine .nsq (run_cond (t := x_85) h56 h (fun h => ?_) (fun h => ?_))
  · refine .seq (run_reg ?_)
    refine e_clr ?_
    refine ez [(1, _), (2, _), (4, _), (5, _), (6, _), (7, _), (8, _), (62, _), (63, _)] ⟨(keep_clear (pk := [62, 63]) h1 rfl me), (keep_clear (pk := [62, 63]) h2 rfl (map_bx rfl (map_agg (maps_cons mi (maps_cons me maps_nil))))), (keep_clear (pk := [62, 63]) h4 rfl (map_bx rfl (map_agg (maps_cons rfl (maps_cons rfl maps_nil))))), (keep_clear (pk := [62, 63]) h5 rfl (map_bx rfl (map_agg (maps_cons (map_encO (r := 9) (p := []) rfl rfl) (maps_cons (map_encO (r := 10) (p := []) rfl rfl) maps_nil))))), (keep_clear (pk := [62, 63]) h6 rfl mi), (keep_clear (pk := [62, 63]) h7 rfl me), (keep_clear (pk := [62, 63]) h8 rfl mi), (gone_clear (pk := [62, 63]) (t := 62) rfl), (gone_clear (pk := [62, 63]) (t := 63) rfl)⟩ ?_
    rintro s ⟨h1, h2, h4, h5, h6, h7, h8, h62, h63⟩
    refine g1 5 (.ref (.bx 5) 0 [1] (encO (.at 10 []) (.of (x_32 : List (Int × Int))))) h5 fun h57 => ?_
    refine g1 57 (encO (.at 10 []) (.of (x_32 : List (Int × Int)))) h57 fun h58 => ?_
    refine gm h6 fun h59 => gm h8 fun h60 => g2 59 60 (.agg [(ji x_33), (ji x_75)]) h59 h60 fun h61 => ?_
    refine g_litL [(61, (.agg [(ji x_33), (ji x_75)]))] [Enc.enc ((x_33, x_75) : (Int × Int))] h61 rfl rfl h62 ?_
    obtain ⟨ap_87, E_ap_87, h⟩ := bind_some h
    refine g_app (q := 10) (p := []) (o := (.of (x_32 : List (Int × Int)))) (ys := ([(x_33, x_75)] : List (Int × Int))) (t2 := (.at 62 [])) (lo2 := 0) h58 rfl rfl h63 (appN_L (o := (.of (x_32 : List (Int × Int)))) E_ap_87 trivial) (fun s_84 ha_84 => ?_)
    refine g1 5 (.ref (.bx 5) 0 [1] (kdO ((.of x_32) : NL (Int × Int)))) (show s_84 5 = (.ref (.bx 5) 0 [] (.agg [(encO (.at 9 []) (.of (ap_67 : List (List Int)))), (kdO ((.of x_32) : NL (Int × Int)))])) from keep_appK ha_84 h5 (map_bx rfl (map_agg (maps_cons (map_encO (r := 9) (p := []) rfl rfl) (maps_cons map_kdT maps_nil)))) (by intro h; first | (cases h; done) | (subst h; rfl))) fun h64 => ?_
    refine g_store (encO (.at 63 []) (.of (ap_87 : List (Int × Int)))) (rd_of h64 rfl) (rd_of rfl rfl) ⟨by decide, by decide, rfl, rfl, shp_kdO, tok_encP rfl rfl⟩ ?_
    refine g_end ?_
    refine e_drp (x := 10) (fun s_85 hx_85 hd_85 => ?_)
    refine e_home (r := 63) (x := 10) (v := _) (by exact hx_85) rfl (fun s_86 hg_86 => ?_)
    refine ez [(1, (eL x_2)), (2, (.ref (.bx 2) 0 [] (.agg [(ji x_1.1), (Enc.enc (x_1.2 : List (Int × Int)))]))), (4, (.ref (.bx 4) 0 [] (.agg [(.sl .nl (Enc.shp (List Int)) 0 []), (.sl .nl (Enc.shp (Int × Int)) 0 [])]))), (5, (.ref (.bx 5) 0 [] (.agg [(encO (.at 9 []) (.of (ap_67 : List (List Int)))), (encO (.at 10 []) (.of (ap_87 : List (Int × Int))))]))), (6, (ji x_33)), (7, (eL r_64)), (8, (ji x_75))] ⟨(hg_86 1 _ _ (show s_85 1 = (eL x_2) from (hd_85 1 (by decide)).trans (keep_mut (show s_84 1 = (eL x_2) from keep_app ha_84 h1 me) (Enc.mut_enc _ _ _ _ (x_2 : List Int)))) me), (hg_86 2 _ _ (show s_85 2 = (.ref (.bx 2) 0 [] (.agg [(ji x_1.1), (Enc.enc (x_1.2 : List (Int × Int)))])) from (hd_85 2 (by decide)).trans (keep_mut (show s_84 2 = (.ref (.bx 2) 0 [] (.agg [(ji x_1.1), (Enc.enc (x_1.2 : List (Int × Int)))])) from keep_app ha_84 h2 (map_bx rfl (map_agg (maps_cons mi (maps_cons me maps_nil))))) (mut_ref_ne rfl rfl (mut_agg (muts_cons rfl (muts_cons (Enc.mut_enc _ _ _ _ (x_1.2 : List (Int × Int))) rfl)))))) (map_bx rfl (map_agg (maps_cons mi (maps_cons me maps_nil))))), (hg_86 4 _ _ (show s_85 4 = (.ref (.bx 4) 0 [] (.agg [(.sl .nl (Enc.shp (List Int)) 0 []), (.sl .nl (Enc.shp (Int × Int)) 0 [])])) from (hd_85 4 (by decide)).trans (keep_mut (show s_84 4 = (.ref (.bx 4) 0 [] (.agg [(.sl .nl (Enc.shp (List Int)) 0 []), (.sl .nl (Enc.shp (Int × Int)) 0 [])])) from keep_app ha_84 h4 (map_bx rfl (map_agg (maps_cons rfl (maps_cons rfl maps_nil))))) (mut_ref_ne rfl rfl (mut_agg (muts_cons rfl (muts_cons rfl rfl)))))) (map_bx rfl (map_agg (maps_cons rfl (maps_cons rfl maps_nil))))), (hg_86 5 _ (.ref (.bx 5) 0 [] (.agg [(encO (.at 9 []) (.of (ap_67 : List (List Int)))), (encO (.at 10 []) (.of (ap_87 : List (Int × Int))))])) (show s_85 5 = (.ref (.bx 5) 0 [] (.agg [(encO (.at 9 []) (.of (ap_67 : List (List Int)))), (encO (.at 63 []) (.of (ap_87 : List (Int × Int))))])) from (hd_85 5 (by decide)).trans (keep_mut (show s_84 5 = (.ref (.bx 5) 0 [] (.agg [(encO (.at 9 []) (.of (ap_67 : List (List Int)))), (kdO ((.of x_32) : NL (Int × Int)))])) from keep_appK ha_84 h5 (map_bx rfl (map_agg (maps_cons (map_encO (r := 9) (p := []) rfl rfl) (maps_cons map_kdT maps_nil)))) (by intro h; first | (cases h; done) | (subst h; rfl))) (mut_bxf (muts_cons (mut_own_ne rfl rfl) (muts_cons mut_kdO rfl))))) (map_bx rfl (map_agg (maps_cons (map_encO (r := 9) (p := []) rfl rfl) (maps_cons (map_encO (r := 63) (p := []) rfl rfl) maps_nil))))), (hg_86 6 _ _ (show s_85 6 = (ji x_33) from (hd_85 6 (by decide)).trans (keep_mut (show s_84 6 = (ji x_33) from keep_app ha_84 h6 mi) rfl)) mi), (hg_86 7 _ _ (show s_85 7 = (eL r_64) from (hd_85 7 (by decide)).trans (keep_mut (show s_84 7 = (eL r_64) from keep_app ha_84 h7 me) (Enc.mut_enc _ _ _ _ (r_64 : List Int)))) me), (hg_86 8 _ _ (show s_85 8 = (ji x_75) from (hd_85 8 (by decide)).trans (keep_mut (show s_84 8 = (ji x_75) from keep_app ha_84 h8 mi) rfl)) mi)⟩ ?_
    rintro s ⟨h1, h2, h4, h5, h6, h7, h8⟩
    refine .nsq (.exit (.ebn (by decide) (.esq (.elp (.ebk (.nbk (.nsq (rg (gm h6 fun h16 => g1 16 (ji (w64 (x_33 + 1))) h16 fun h17 => ?_)))))))))
    refine gm h17 fun h6 => gq (.nlp ?_)
    exact Hc1 ap_67 ap_87 (w64 (x_33 + 1)) _ ⟨h1, h2, h4, h5, h6⟩ h
  refine .skip (.nbk (.nsq (rg (gm h8 fun h44 => g1 44 (ji (w64 (x_75 + 1))) h44 fun h45 => ?_))))
  refine gm h45 fun h8 => gq (.nlp ?_)
  exact Hc4 (w64 (x_75 + 1)) _ ⟨h1, h2, h4, h5, h6, h7, h8⟩ h
def s_l5Made_l1 (F : Nat) (x_2 : (List Int)) (x_1 : (Int × (List (Int × Int)))) (ap_67 : (List (List Int))) (x_32 : (List (Int × Int))) (x_33 : Int) (r_64 : (List Int)) (c1 : (List (List Int)) → (List (Int × Int)) → Int → Option ((List (List Int)) × (List (Int × Int)))) : Nat → Int → Option ((List (List Int)) × (List (Int × Int)))
  | 0, _ => none
  | k + 1, x_75 =>
    bif decide (x_75 < (x_2.length : Int)) then
      (idx x_2 x_75).bind fun e_88 =>
      (s_l1Has F r_64 e_88).bind fun r_89 =>
      bif r_89 then
        s_l5Made_j1 F x_2 x_1 ap_67 x_32 x_33 r_64 x_75 c1 (s_l5Made_l1 F x_2 x_1 ap_67 x_32 x_33 r_64 c1 k) true
      else
        s_l5Made_j1 F x_2 x_1 ap_67 x_32 x_33 r_64 x_75 c1 (s_l5Made_l1 F x_2 x_1 ap_67 x_32 x_33 r_64 c1 k) ((r_64.length : Int) == 0)
    else
      c1 ap_67 x_32 (w64 (x_33 + 1))
theorem t_f99_l1 (H : H99 D σ F) (x_2 : (List Int)) (x_1 : (Int × (List (Int × Int)))) (ap_67 : (List (List Int))) (x_32 : (List (Int × Int))) (x_33 : Int) (r_64 : (List Int)) (c1 : (List (List Int)) → (List (Int × Int)) → Int → Option ((List (List Int)) × (List (Int × Int)))) (Hc1 : ∀ (x_31 : (List (List Int))) (x_32 : (List (Int × Int))) (x_33 : Int) (s : Nat → V), Facts [(1, (eL x_2)), (2, (.ref (.bx 2) 0 [] (.agg [(ji x_1.1), (Enc.enc (x_1.2 : List (Int × Int)))]))), (4, (.ref (.bx 4) 0 [] (.agg [(.sl .nl (Enc.shp (List Int)) 0 []), (.sl .nl (Enc.shp (Int × Int)) 0 [])]))), (5, (.ref (.bx 5) 0 [] (.agg [(encO (.at 9 []) (.of (x_31 : List (List Int)))), (encO (.at 10 []) (.of (x_32 : List (Int × Int))))]))), (6, (ji x_33))] s → c1 x_31 x_32 x_33 = some r → Run D σ (R99 r) (.run A99_1 [.lp A99_1, .bk 0, .sq A99_13]) s) : ∀ (k : Nat) (x_75 : Int) (s : Nat → V), Facts [(1, (eL x_2)), (2, (.ref (.bx 2) 0 [] (.agg [(ji x_1.1), (Enc.enc (x_1.2 : List (Int × Int)))]))), (4, (.ref (.bx 4) 0 [] (.agg [(.sl .nl (Enc.shp (List Int)) 0 []), (.sl .nl (Enc.shp (Int × Int)) 0 [])]))), (5, (.ref (.bx 5) 0 [] (.agg [(encO (.at 9 []) (.of (ap_67 : List (List Int)))), (encO (.at 10 []) (.of (x_32 : List (Int × Int))))]))), (6, (ji x_33)), (7, (eL r_64)), (8, (ji x_75))] s → s_l5Made_l1 F x_2 x_1 ap_67 x_32 x_33 r_64 c1 k x_75 = some r → Run D σ (R99 r) (.run A99_7 [.lp A99_7, .bk 2, .bk 1, .sq A99_12, .lp A99_1, .bk 0, .sq A99_13]) s := by
  intro k
  induction k with
  | zero => intro x_75 s _ h; exact nomatch (h : (none : Option _) = some r)
  | succ k ih =>
    intro x_75 s hs h
    rw [s_l5Made_l1] at h
    obtain ⟨h1, h2, h4, h5, h6, h7, h8⟩ := hs
    refine .seq (.seq (rg (gm h8 fun h40 => gm h1 fun h41 => gv (ji (x_2.length : Int)) (ev_len (xs := x_2) h41) fun h42 => ?_)))
    refine g2 40 42 (jb (decide (x_75 < (x_2.length : Int)))) h40 h42 fun h43 => ?_
    refine gq (.nsq (run_cond (t := decide (x_75 < (x_2.length : Int))) h43 h (fun h => ?_) (fun h => ?_)))
    · refine .skip (.nsq (.seq (.block (.seq (rg (gm h7 fun h46 => gm h1 fun h47 => gm h8 fun h48 => ?_))))))
      obtain ⟨e_88, E_e_88, h⟩ := bind_some h
      refine gv (.ref .sh 0 [] (ji e_88)) (ev_idx (t := .sh) (lo := 0) (xs := x_2) h47 h48 E_e_88 rfl rfl) fun h49 => ?_
      refine g1 49 (ji e_88) h49 fun h50 => ?_
      obtain ⟨r_89, E_r_89, h⟩ := bind_some h
      refine g_call (m := 0) (al := false) (r := (Enc.enc (r_89 : Bool))) [Enc.enc (r_64 : (List Int)), Enc.enc (e_88 : Int)] (ta_cons (v := (eL r_64)) h46 rfl (Enc.erase_enc (r_64 : (List Int))) (ta_cons (v := (ji e_88)) h50 rfl rfl ta_nil)) (H.c74 _ _ _ E_r_89) H.g74 rfl rfl rfl rfl ?_
      refine gm (rfl : (_ : V) = (jb r_89)) fun h52 => ?_
      refine split_on (c := r_89) h (fun hg7 h => ?_) (fun hg7 h => ?_)
      · refine g_no (h52.trans (congrArg V.bool hg7)) ?_
        refine g_no (h52.trans (congrArg V.bool hg7)) ?_
        refine g_no (h52.trans (congrArg V.bool hg7)) ?_
        refine g2 52 55 (jb true) (h52.trans (congrArg V.bool hg7)) (rfl : (_ : V) = (.tup [])) fun h56 => ?_
        refine gq ?_
        exact t_f99_j1 H x_2 x_1 ap_67 x_32 x_33 r_64 x_75 c1 Hc1 (s_l5Made_l1 F x_2 x_1 ap_67 x_32 x_33 r_64 c1 k) ih true _ ⟨h1, h2, h4, h5, h6, h7, h8, h56⟩ h
      refine g_yes (h52.trans (congrArg V.bool hg7)) (gm h7 fun h53 => ?_)
      refine g_yes (h52.trans (congrArg V.bool hg7)) (gv (ji (r_64.length : Int)) (ev_len (xs := r_64) h53) fun h54 => ?_)
      refine g_yes (h52.trans (congrArg V.bool hg7)) (g1 54 (jb ((r_64.length : Int) == 0)) h54 fun h55 => ?_)
      refine g2 52 55 (jb ((r_64.length : Int) == 0)) (h52.trans (congrArg V.bool hg7)) h55 fun h56 => ?_
      refine gq ?_
      exact t_f99_j1 H x_2 x_1 ap_67 x_32 x_33 r_64 x_75 c1 Hc1 (s_l5Made_l1 F x_2 x_1 ap_67 x_32 x_33 r_64 c1 k) ih ((r_64.length : Int) == 0) _ ⟨h1, h2, h4, h5, h6, h7, h8, h56⟩ h
    refine .exit (.esq (.elp (.ebk (.nbk (.nsq (rg (gm h6 fun h16 => g1 16 (ji (w64 (x_33 + 1))) h16 fun h17 => ?_)))))))
    refine gm h17 fun h6 => gq (.nlp ?_)
    exact Hc1 ap_67 x_32 (w64 (x_33 + 1)) _ ⟨h1, h2, h4, h5, h6⟩ h
def s_l5Made_l2 (F : Nat) (x_2 : (List Int)) (x_1 : (Int × (List (Int × Int))))  : Nat → (List (List Int)) → (List (Int × Int)) → Int → Option ((List (List Int)) × (List (Int × Int)))
  | 0, _, _, _ => none
  | k + 1, x_31, x_32, x_33 =>
    bif decide (x_33 < (x_2.length : Int)) then
      (sub x_2 0 x_33).bind fun sub_62 =>
      (idx x_2 x_33).bind fun e_63 =>
      (s_l5Later F x_1 sub_62 e_63).bind fun r_64 =>
      (idx x_2 x_33).bind fun e_65 =>
      (s_l1Put F r_64 e_65).bind fun r_66 =>
      (appL x_31 [r_66]).bind fun ap_67 =>
      s_l5Made_l1 F x_2 x_1 ap_67 x_32 x_33 r_64 (s_l5Made_l2 F x_2 x_1 k) F (w64 (x_33 + 1))
    else
      some (x_31, x_32)
theorem t_f99_l2 (H : H99 D σ F) (x_2 : (List Int)) (x_1 : (Int × (List (Int × Int))))  : ∀ (k : Nat) (x_31 : (List (List Int))) (x_32 : (List (Int × Int))) (x_33 : Int) (s : Nat → V), Facts [(1, (eL x_2)), (2, (.ref (.bx 2) 0 [] (.agg [(ji x_1.1), (Enc.enc (x_1.2 : List (Int × Int)))]))), (4, (.ref (.bx 4) 0 [] (.agg [(.sl .nl (Enc.shp (List Int)) 0 []), (.sl .nl (Enc.shp (Int × Int)) 0 [])]))), (5, (.ref (.bx 5) 0 [] (.agg [(encO (.at 9 []) (.of (x_31 : List (List Int)))), (encO (.at 10 []) (.of (x_32 : List (Int × Int))))]))), (6, (ji x_33))] s → s_l5Made_l2 F x_2 x_1 k x_31 x_32 x_33 = some r → Run D σ (R99 r) (.run A99_1 [.lp A99_1, .bk 0, .sq A99_13]) s := by
  intro k
  induction k with
  | zero => intro x_31 x_32 x_33 s _ h; exact nomatch (h : (none : Option _) = some r)
  | succ k ih =>
    intro x_31 x_32 x_33 s hs h
    rw [s_l5Made_l2] at h
    obtain ⟨h1, h2, h4, h5, h6⟩ := hs
    refine .seq (.seq (rg (gm h6 fun h12 => gm h1 fun h13 => gv (ji (x_2.length : Int)) (ev_len (xs := x_2) h13) fun h14 => ?_)))
    refine g2 12 14 (jb (decide (x_33 < (x_2.length : Int)))) h12 h14 fun h15 => ?_
    refine gq (.nsq (run_cond (t := decide (x_33 < (x_2.length : Int))) h15 h (fun h => ?_) (fun h => ?_)))
    · refine .skip (.nsq (.seq (.block (.seq (rg (g1 2 (.agg [(ji x_1.1), (Enc.enc (x_1.2 : List (Int × Int)))]) h2 fun h18 => ?_))))))
      refine gm h1 fun h19 => gm h6 fun h20 => ?_
      obtain ⟨sub_62, E_sub_62, h⟩ := bind_some h
      refine gv (eL sub_62) (ev_slice (xs := x_2) h19 (optI_none) (optI_some h20) E_sub_62 rfl) fun h21 => ?_
      refine gm h1 fun h22 => gm h6 fun h23 => ?_
      obtain ⟨e_63, E_e_63, h⟩ := bind_some h
      refine gv (.ref .sh 0 [] (ji e_63)) (ev_idx (t := .sh) (lo := 0) (xs := x_2) h22 h23 E_e_63 rfl rfl) fun h24 => ?_
      refine g1 24 (ji e_63) h24 fun h25 => ?_
      obtain ⟨r_64, E_r_64, h⟩ := bind_some h
      refine g_call (m := 0) (al := true) (r := (Enc.enc (r_64 : (List Int)))) [Enc.enc (x_1 : (Int × (List (Int × Int)))), Enc.enc (sub_62 : (List Int)), Enc.enc (e_63 : Int)] (ta_cons (v := (.agg [(ji x_1.1), (Enc.enc (x_1.2 : List (Int × Int)))])) h18 rfl (Enc.erase_enc (x_1 : (Int × (List (Int × Int))))) (ta_cons (v := (eL sub_62)) h21 rfl (Enc.erase_enc (sub_62 : (List Int))) (ta_cons (v := (ji e_63)) h25 rfl rfl ta_nil))) (H.c120 _ _ _ _ E_r_64) H.g120 (hal_of (ht_cons (v := (.agg [(ji x_1.1), (Enc.enc (x_1.2 : List (Int × Int)))])) h18 rfl rfl (ht_cons (v := (eL sub_62)) h21 rfl rfl (ht_cons (v := (ji e_63)) h25 rfl rfl ht_nil)))) rfl rfl rfl ?_
      refine gm (rfl : (_ : V) = (eL r_64)) fun h7 => ?_
      refine gq (.nsq (.seq (run_reg ?_)))
      refine e_clr ?_
      refine ez [(1, _), (2, _), (4, _), (5, _), (6, _), (7, _), (35, _), (36, _)] ⟨(keep_clear (pk := [35, 36]) h1 rfl me), (keep_clear (pk := [35, 36]) h2 rfl (map_bx rfl (map_agg (maps_cons mi (maps_cons me maps_nil))))), (keep_clear (pk := [35, 36]) h4 rfl (map_bx rfl (map_agg (maps_cons rfl (maps_cons rfl maps_nil))))), (keep_clear (pk := [35, 36]) h5 rfl (map_bx rfl (map_agg (maps_cons (map_encO (r := 9) (p := []) rfl rfl) (maps_cons (map_encO (r := 10) (p := []) rfl rfl) maps_nil))))), (keep_clear (pk := [35, 36]) h6 rfl mi), (keep_clear (pk := [35, 36]) h7 rfl me), (gone_clear (pk := [35, 36]) (t := 35) rfl), (gone_clear (pk := [35, 36]) (t := 36) rfl)⟩ ?_
      rintro s ⟨h1, h2, h4, h5, h6, h7, h35, h36⟩
      refine g1 5 (.ref (.bx 5) 0 [0] (encO (.at 9 []) (.of (x_31 : List (List Int))))) h5 fun h27 => ?_
      refine g1 27 (encO (.at 9 []) (.of (x_31 : List (List Int)))) h27 fun h28 => ?_
      refine gm h7 fun h29 => gm h1 fun h30 => gm h6 fun h31 => ?_
      obtain ⟨e_65, E_e_65, h⟩ := bind_some h
      refine gv (.ref .sh 0 [] (ji e_65)) (ev_idx (t := .sh) (lo := 0) (xs := x_2) h30 h31 E_e_65 rfl rfl) fun h32 => ?_
      refine g1 32 (ji e_65) h32 fun h33 => ?_
      obtain ⟨r_66, E_r_66, h⟩ := bind_some h
      refine g_call (m := 0) (al := true) (r := (Enc.enc (r_66 : (List Int)))) [Enc.enc (r_64 : (List Int)), Enc.enc (e_65 : Int)] (ta_cons (v := (eL r_64)) h29 rfl (Enc.erase_enc (r_64 : (List Int))) (ta_cons (v := (ji e_65)) h33 rfl rfl ta_nil)) (H.c146 _ _ _ E_r_66) H.g146 (hal_of (ht_cons (v := (eL r_64)) h29 rfl rfl (ht_cons (v := (ji e_65)) h33 rfl rfl ht_nil))) rfl rfl rfl ?_
      refine g_litL [(34, (eL r_66))] [Enc.enc (r_66 : (List Int))] rfl rfl rfl h35 ?_
      obtain ⟨ap_67, E_ap_67, h⟩ := bind_some h
      refine g_app (q := 9) (p := []) (o := (.of (x_31 : List (List Int)))) (ys := ([r_66] : List (List Int))) (t2 := (.at 35 [])) (lo2 := 0) h28 rfl rfl h36 (appN_L (o := (.of (x_31 : List (List Int)))) E_ap_67 trivial) (fun s_60 ha_60 => ?_)
      refine g1 5 (.ref (.bx 5) 0 [0] (kdO ((.of x_31) : NL (List Int)))) (show s_60 5 = (.ref (.bx 5) 0 [] (.agg [(kdO ((.of x_31) : NL (List Int))), (encO (.at 10 []) (.of (x_32 : List (Int × Int))))])) from keep_appK ha_60 h5 (map_bx rfl (map_agg (maps_cons map_kdT (maps_cons (map_encO (r := 10) (p := []) rfl rfl) maps_nil)))) (by intro h; first | (cases h; done) | (subst h; rfl))) fun h37 => ?_
      refine g_store (encO (.at 36 []) (.of (ap_67 : List (List Int)))) (rd_of h37 rfl) (rd_of rfl rfl) ⟨by decide, by decide, rfl, rfl, shp_kdO, tok_encP rfl rfl⟩ ?_
      refine g_end ?_
      refine e_drp (x := 9) (fun s_61 hx_61 hd_61 => ?_)
      refine e_home (r := 36) (x := 9) (v := _) (by exact hx_61) rfl (fun s_62 hg_62 => ?_)
      refine ez [(1, (eL x_2)), (2, (.ref (.bx 2) 0 [] (.agg [(ji x_1.1), (Enc.enc (x_1.2 : List (Int × Int)))]))), (4, (.ref (.bx 4) 0 [] (.agg [(.sl .nl (Enc.shp (List Int)) 0 []), (.sl .nl (Enc.shp (Int × Int)) 0 [])]))), (5, (.ref (.bx 5) 0 [] (.agg [(encO (.at 9 []) (.of (ap_67 : List (List Int)))), (encO (.at 10 []) (.of (x_32 : List (Int × Int))))]))), (6, (ji x_33)), (7, (eL r_64))] ⟨(hg_62 1 _ _ (show s_61 1 = (eL x_2) from (hd_61 1 (by decide)).trans (keep_mut (show s_60 1 = (eL x_2) from keep_app ha_60 h1 me) (Enc.mut_enc _ _ _ _ (x_2 : List Int)))) me), (hg_62 2 _ _ (show s_61 2 = (.ref (.bx 2) 0 [] (.agg [(ji x_1.1), (Enc.enc (x_1.2 : List (Int × Int)))])) from (hd_61 2 (by decide)).trans (keep_mut (show s_60 2 = (.ref (.bx 2) 0 [] (.agg [(ji x_1.1), (Enc.enc (x_1.2 : List (Int × Int)))])) from keep_app ha_60 h2 (map_bx rfl (map_agg (maps_cons mi (maps_cons me maps_nil))))) (mut_ref_ne rfl rfl (mut_agg (muts_cons rfl (muts_cons (Enc.mut_enc _ _ _ _ (x_1.2 : List (Int × Int))) rfl)))))) (map_bx rfl (map_agg (maps_cons mi (maps_cons me maps_nil))))), (hg_62 4 _ _ (show s_61 4 = (.ref (.bx 4) 0 [] (.agg [(.sl .nl (Enc.shp (List Int)) 0 []), (.sl .nl (Enc.shp (Int × Int)) 0 [])])) from (hd_61 4 (by decide)).trans (keep_mut (show s_60 4 = (.ref (.bx 4) 0 [] (.agg [(.sl .nl (Enc.shp (List Int)) 0 []), (.sl .nl (Enc.shp (Int × Int)) 0 [])])) from keep_app ha_60 h4 (map_bx rfl (map_agg (maps_cons rfl (maps_cons rfl maps_nil))))) (mut_ref_ne rfl rfl (mut_agg (muts_cons rfl (muts_cons rfl rfl)))))) (map_bx rfl (map_agg (maps_cons rfl (maps_cons rfl maps_nil))))), (hg_62 5 _ (.ref (.bx 5) 0 [] (.agg [(encO (.at 9 []) (.of (ap_67 : List (List Int)))), (encO (.at 10 []) (.of (x_32 : List (Int × Int))))])) (show s_61 5 = (.ref (.bx 5) 0 [] (.agg [(encO (.at 36 []) (.of (ap_67 : List (List Int)))), (encO (.at 10 []) (.of (x_32 : List (Int × Int))))])) from (hd_61 5 (by decide)).trans (keep_mut (show s_60 5 = (.ref (.bx 5) 0 [] (.agg [(kdO ((.of x_31) : NL (List Int))), (encO (.at 10 []) (.of (x_32 : List (Int × Int))))])) from keep_appK ha_60 h5 (map_bx rfl (map_agg (maps_cons map_kdT (maps_cons (map_encO (r := 10) (p := []) rfl rfl) maps_nil)))) (by intro h; first | (cases h; done) | (subst h; rfl))) (mut_bxf (muts_cons mut_kdO (muts_cons (mut_own_ne rfl rfl) rfl))))) (map_bx rfl (map_agg (maps_cons (map_encO (r := 36) (p := []) rfl rfl) (maps_cons (map_encO (r := 10) (p := []) rfl rfl) maps_nil))))), (hg_62 6 _ _ (show s_61 6 = (ji x_33) from (hd_61 6 (by decide)).trans (keep_mut (show s_60 6 = (ji x_33) from keep_app ha_60 h6 mi) rfl)) mi), (hg_62 7 _ _ (show s_61 7 = (eL r_64) from (hd_61 7 (by decide)).trans (keep_mut (show s_60 7 = (eL r_64) from keep_app ha_60 h7 me) (Enc.mut_enc _ _ _ _ (r_64 : List Int)))) me)⟩ ?_
      rintro s ⟨h1, h2, h4, h5, h6, h7⟩
      refine .nsq (.seq (rg (gm h6 fun h38 => g1 38 (ji (w64 (x_33 + 1))) h38 fun h39 => ?_)))
      refine gm h39 fun h8 => gq (.nsq (.block (.loop ?_)))
      exact t_f99_l1 H x_2 x_1 ap_67 x_32 x_33 r_64 (s_l5Made_l2 F x_2 x_1 k) ih F (w64 (x_33 + 1)) _ ⟨h1, h2, h4, h5, h6, h7, h8⟩ h
    refine .exit (.esq (.elp (.ebk (.nsq (.seq (rg (g1 5 (.agg [(encO (.at 9 []) (.of (x_31 : List (List Int)))), (encO (.at 10 []) (.of (x_32 : List (Int × Int))))]) h5 fun h65 => ?_)))))))
    refine g_store (.agg [(encO (.at 9 []) (.of (x_31 : List (List Int)))), (encO (.at 10 []) (.of (x_32 : List (Int × Int))))]) (rd_of h4 rfl) (rd_of h65 rfl) (by refine ⟨by decide, by decide, rfl, rfl, rfl, ?_⟩; first | rfl | (simp [V.toks, V.tokss, Enc.toks_enc]; done) | simp [V.toks, V.tokss, Enc.toks_enc, tok_memP]) ?_
    refine gz [(4, (.ref (.bx 4) 0 [] (.agg [(encO (.at 9 []) (.of (x_31 : List (List Int)))), (encO (.at 10 []) (.of (x_32 : List (Int × Int))))])))] (keep_mut h4 rfl) ?_
    rintro s h4
    refine .nsq (.ret ?_)
    have hr := Option.some.inj h
    subst hr
    exact rrA (res_cell h4 (by kernel_rfl)) (fin_ret1 (fin_agg (fins_cons (fin_own (o := .of x_31)) (fins_cons (fin_own (o := .of x_32)) fins_nil))))
def s_l5Made (F : Nat) (x_1 : (Int × (List (Int × Int)))) (x_2 : (List Int)) : Option ((List (List Int)) × (List (Int × Int))) :=
  s_l5Made_l2 F x_2 x_1 F [] [] 0
theorem t99 (H : H99 D σ F) (x_1 : (Int × (List (Int × Int)))) (x_2 : (List Int)) (s : Nat → V) (hs : Facts [(0, (.agg [(ji x_1.1), (Enc.enc (x_1.2 : List (Int × Int)))])), (1, (eL x_2))] s) (h : s_l5Made F x_1 x_2 = some r) : Run D σ (R99 r) (.run A99 []) s := by
  unfold s_l5Made at h
  obtain ⟨h0, h1⟩ := hs
  refine .seq (run_reg ?_)
  refine e_clr ?_
  refine ez [(0, _), (1, _), (2, _), (4, _)] ⟨(keep_clear (pk := [2, 4]) h0 rfl (map_agg (maps_cons mi (maps_cons me maps_nil)))), (keep_clear (pk := [2, 4]) h1 rfl me), (gone_clear (pk := [2, 4]) (t := 2) rfl), (gone_clear (pk := [2, 4]) (t := 4) rfl)⟩ ?_
  rintro s ⟨h0, h1, h2, h4⟩
  refine g_box (.agg [(ji x_1.1), (Enc.enc (x_1.2 : List (Int × Int)))]) (rd_of h0 rfl) h2 rfl ?_
  refine g_alloc h4 ?_
  refine gq (.nsq (.seq (run_reg ?_)))
  refine e_clr ?_
  refine ez [(1, _), (2, _), (4, _), (5, _), (9, _), (10, _)] ⟨(keep_clear (pk := [9, 10, 5]) h1 rfl me), (keep_clear (pk := [9, 10, 5]) rfl rfl (map_bx rfl (map_agg (maps_cons mi (maps_cons me maps_nil))))), (keep_clear (pk := [9, 10, 5]) rfl rfl (map_bx rfl (map_agg (maps_cons rfl (maps_cons rfl maps_nil))))), (gone_clear (pk := [9, 10, 5]) (t := 5) rfl), (gone_clear (pk := [9, 10, 5]) (t := 9) rfl), (gone_clear (pk := [9, 10, 5]) (t := 10) rfl)⟩ ?_
  rintro s ⟨h1, h2, h4, h5, h9, h10⟩
  refine g_litL [] [] trivial rfl rfl h9 ?_
  refine g_litL [] [] trivial rfl rfl h10 ?_
  refine g2 9 10 (.agg [(encO (.at 9 []) (.of ([] : List (List Int)))), (encO (.at 10 []) (.of ([] : List (Int × Int))))]) (rfl : (_ : V) = (encO (.at 9 []) (.of ([] : List (List Int))))) (rfl : (_ : V) = (encO (.at 10 []) (.of ([] : List (Int × Int))))) fun h11 => ?_
  refine g_alloc h5 ?_
  refine g_store (.agg [(encO (.at 9 []) (.of ([] : List (List Int)))), (encO (.at 10 []) (.of ([] : List (Int × Int))))]) (rd_of rfl rfl) (rd_of h11 rfl) (by refine ⟨by decide, by decide, rfl, rfl, rfl, ?_⟩; first | rfl | (simp [V.toks, V.tokss, Enc.toks_enc]; done) | simp [V.toks, V.tokss, Enc.toks_enc, tok_memP]) ?_
  refine gz [(1, (eL x_2)), (2, (.ref (.bx 2) 0 [] (.agg [(ji x_1.1), (Enc.enc (x_1.2 : List (Int × Int)))]))), (4, (.ref (.bx 4) 0 [] (.agg [(.sl .nl (Enc.shp (List Int)) 0 []), (.sl .nl (Enc.shp (Int × Int)) 0 [])]))), (5, (.ref (.bx 5) 0 [] (.agg [(encO (.at 9 []) (.of ([] : List (List Int)))), (encO (.at 10 []) (.of ([] : List (Int × Int))))])))] ⟨(keep_mut h1 (Enc.mut_enc _ _ _ _ (x_2 : List Int))), (keep_mut h2 (mut_ref_ne rfl rfl (mut_agg (muts_cons rfl (muts_cons (Enc.mut_enc _ _ _ _ (x_1.2 : List (Int × Int))) rfl))))), (keep_mut h4 (mut_ref_ne rfl rfl (mut_agg (muts_cons rfl (muts_cons rfl rfl))))), (keep_mut rfl rfl)⟩ ?_
  rintro s ⟨h1, h2, h4, h5⟩
  refine .nsq (.seq (.seq (rg (g0 (ji 0) fun h6 => gq (.nsq (.block (.loop ?_)))))))
  exact t_f99_l2 H x_2 x_1 F [] [] 0 _ ⟨h1, h2, h4, h5, h6⟩ h
end
def e99 (F : Nat) : Ent := ent 99 (fun (x : ((Int × (List (Int × Int))) × (List Int) × Unit)) => s_l5Made F x.1 x.2.1) (fun (r : ((List (List Int)) × (List (Int × Int)))) => (Enc.enc (r : ((List (List Int)) × (List (Int × Int)))))) 0 true []
theorem p99 {F : Nat} {x0 : (Int × (List (Int × Int)))} {x1 : (List Int)} {r : ((List (List Int)) × (List (Int × Int)))} (h : s_l5Made F x0 x1 = some r) : (e99 F).den [Enc.enc x0, Enc.enc x1] = some (Enc.enc (r : ((List (List Int)) × (List (Int × Int))))) := ent_put (x0, x1, ()) h
theorem o99 {D : Den} {σ : Sig} {F : Nat} (hF : Fits2 Try.prog D σ) (H : H99 D σ F) : (e99 F).Ok Try.prog := by
  refine ok_of (f := 99) (show unk 99 = 99 from rfl) (fun args r h => ?_) ⟨Try.f99, Try.func99, rfl, rfl⟩
  obtain ⟨⟨x0, x1, _⟩, y, rfl, hy, rfl⟩ := da_open h
  exact contract_run hF (by kernel_rfl) Try.func99 rfl c99 (show 2 ≤ Try.f99.ntmps by decide) (t99 H x0 x1 _ ⟨rfl, rfl⟩ hy)
/- loop.example/g01109/spec.DecompositionOf -/
def A43_1 : AC := (.cond (.t 14) (.seq (.reg [] [((jv 15 (.bld (.agg [(.sl .nl .p 0 []), (.sl .nl (.ag [.s, .s]) 0 [])]) []))), (.mk none none false (.store (.ag [.p, .p]) (.t 4) (.t 15))), ((jv 5 (.mov (.k (.bool false)))))] []) .ret) .skip)
def A43_2 : AC := (.seq (.reg [] [((jv 16 (.load (.ag [.s, .p]) (.t 2)))), (jm 17 1), (.mk (some 18) none false (.call (.k (.fn 99 [] [])) [(.t 16), (.t 17)])), (.mk none none false (.store (.ag [.p, .p]) (.t 4) (.t 18))), ((jv 5 (.mov (.k (.bool true)))))] []) .ret)
def A43_3 : AC := (.seq (.seq (.reg [] [((jv 6 (.load (.ag [.s, .p]) (.t 2)))), (jm 7 1), (.mk (some 8) none false (.call (.k (.fn 60 [] [])) [(.t 6), (.t 7)])), ((jv 9 (.un .not (.t 8)))), (jm 10 9), ((jg 11 10 false (.fld (.t 2) 0 0))), ((jg 12 10 false (.load .s (.t 11)))), ((jg 13 10 false (.bin .eql (.t 12) (jn 0)))), ((jv 14 (.pick (.t 10) (.k (.bool true)) (.t 13))))] []) A43_1) A43_2)
def A43 : AC := (.seq (.reg [.clr [2, 4]] [(.mk (some 2) none false (.box (.t 0))), (.mk (some 4) none false (.alloc (.agg [(.sl .nl .p 0 []), (.sl .nl (.ag [.s, .s]) 0 [])]))), ((jv 5 (.mov (.k (.bool false)))))] []) A43_3)
def an43 : List An := [{ id := 0, pre := [.clr [2, 4]], ep := [], lin := [], sp := [] }]
theorem c43 : cC Try.prog Try.f43.ntmps an43 (Try.f43.body.getD .skip) = some A43 := by kernel_rfl
structure H43 (D : Den) (σ : Sig) (F : Nat) : Prop where
  c60 : ∀ (x0 : (Int × (List (Int × Int)))) (x1 : (List Int)) r, s_l5Order F x0 x1 = some r → D 60 [Enc.enc x0, Enc.enc x1] = some (Enc.enc (r : Bool))
  g60 : σ 60 = some (0, false)
  c99 : ∀ (x0 : (Int × (List (Int × Int)))) (x1 : (List Int)) r, s_l5Made F x0 x1 = some r → D 99 [Enc.enc x0, Enc.enc x1] = some (Enc.enc (r : ((List (List Int)) × (List (Int × Int)))))
  g99 : σ 99 = some (0, true)
abbrev R43 (r : (((List (List Int)) × (List (Int × Int))) × Bool)) : (Nat → V) → Prop := RR Try.prog [.cell 4 49, .tmp 5] 0 true (.tup [Enc.enc (r.1 : ((List (List Int)) × (List (Int × Int)))), Enc.enc (r.2 : Bool)])
section
variable {D : Den} {σ : Sig} {F : Nat} {r : (((List (List Int)) × (List (Int × Int))) × Bool)}
def s_DecompositionOf_j1 (F : Nat) (x_2 : (List Int)) (x_1 : (Int × (List (Int × Int))))  (x_4 : Bool) : Option (((List (List Int)) × (List (Int × Int))) × Bool) :=
  bif x_4 then
    some (([], []), false)
  else
    (s_l5Made F x_1 x_2).bind fun r_5 =>
    some (r_5, true)
theorem t_f43_j1 (H : H43 D σ F) (x_2 : (List Int)) (x_1 : (Int × (List (Int × Int))))  (x_4 : Bool) (s : Nat → V) (hs : Facts [(1, (eL x_2)), (2, (.ref (.bx 2) 0 [] (.agg [(ji x_1.1), (Enc.enc (x_1.2 : List (Int × Int)))]))), (4, (.ref (.bx 4) 0 [] (.agg [(.sl .nl (Enc.shp (List Int)) 0 []), (.sl .nl (Enc.shp (Int × Int)) 0 [])]))), (5, (jb false)), (14, (jb x_4))] s) (h : s_DecompositionOf_j1 F x_2 x_1  x_4 = some r) : Run D σ (R43 r) (.nrm [.sq A43_1, .sq A43_2]) s := by
  unfold s_DecompositionOf_j1 at h
  obtain ⟨h1, h2, h4, h5, h14⟩ := hs
  refine .nsq (run_cond (t := x_4) h14 h (fun h => ?_) (fun h => ?_))
  · refine .seq (rg (g0 (.agg [(.sl .nl (Enc.shp (List Int)) 0 []), (.sl .nl (Enc.shp (Int × Int)) 0 [])]) fun h15 => ?_))
    refine g_store (.agg [(.sl .nl (Enc.shp (List Int)) 0 []), (.sl .nl (Enc.shp (Int × Int)) 0 [])]) (rd_of h4 rfl) (rd_of h15 rfl) (by refine ⟨by decide, by decide, rfl, rfl, rfl, ?_⟩; first | rfl | (simp [V.toks, V.tokss, Enc.toks_enc]; done) | simp [V.toks, V.tokss, Enc.toks_enc, tok_memP]) ?_
    refine g0 (jb false) fun h5 => ?_
    refine gz [(1, (eL x_2)), (2, (.ref (.bx 2) 0 [] (.agg [(ji x_1.1), (Enc.enc (x_1.2 : List (Int × Int)))]))), (4, (.ref (.bx 4) 0 [] (.agg [(.sl .nl (Enc.shp (List Int)) 0 []), (.sl .nl (Enc.shp (Int × Int)) 0 [])]))), (5, _)] ⟨(keep_mut h1 (Enc.mut_enc _ _ _ _ (x_2 : List Int))), (keep_mut h2 (mut_ref_ne rfl rfl (mut_agg (muts_cons rfl (muts_cons (Enc.mut_enc _ _ _ _ (x_1.2 : List (Int × Int))) rfl))))), (keep_mut h4 rfl), h5⟩ ?_
    rintro s ⟨h1, h2, h4, h5⟩
    refine .nsq (.ret ?_)
    have hr := Option.some.inj h
    subst hr
    exact rrB (res_cell h4 (by kernel_rfl)) (res_tmp h5) (fin_ret1 (fin_tup (fins_cons (fin_agg (fins_cons (fin_own (o := (.nil : NL (List Int))) (t := .nl)) (fins_cons (fin_own (o := (.nil : NL (Int × Int))) (t := .nl)) fins_nil))) (fins_cons (fin_enc (x := (false : Bool))) fins_nil))))
  refine .skip (.nsq (.seq (rg (g1 2 (.agg [(ji x_1.1), (Enc.enc (x_1.2 : List (Int × Int)))]) h2 fun h16 => ?_))))
  refine gm h1 fun h17 => ?_
  obtain ⟨r_5, E_r_5, h⟩ := bind_some h
  refine g_call (m := 0) (al := true) (r := (Enc.enc (r_5 : ((List (List Int)) × (List (Int × Int)))))) [Enc.enc (x_1 : (Int × (List (Int × Int)))), Enc.enc (x_2 : (List Int))] (ta_cons (v := (.agg [(ji x_1.1), (Enc.enc (x_1.2 : List (Int × Int)))])) h16 rfl (Enc.erase_enc (x_1 : (Int × (List (Int × Int))))) (ta_cons (v := (eL x_2)) h17 rfl (Enc.erase_enc (x_2 : (List Int))) ta_nil)) (H.c99 _ _ _ E_r_5) H.g99 (hal_of (ht_cons (v := (.agg [(ji x_1.1), (Enc.enc (x_1.2 : List (Int × Int)))])) h16 rfl rfl (ht_cons (v := (eL x_2)) h17 rfl rfl ht_nil))) rfl rfl rfl ?_
  refine g_store (.agg [(Enc.enc (r_5.1 : List (List Int))), (Enc.enc (r_5.2 : List (Int × Int)))]) (rd_of h4 rfl) (rd_of rfl rfl) (by refine ⟨by decide, by decide, rfl, rfl, rfl, ?_⟩; first | rfl | (simp [V.toks, V.tokss, Enc.toks_enc]; done) | simp [V.toks, V.tokss, Enc.toks_enc, tok_memP]) ?_
  refine g0 (jb true) fun h5 => ?_
  refine gz [(4, (.ref (.bx 4) 0 [] (.agg [(Enc.enc (r_5.1 : List (List Int))), (Enc.enc (r_5.2 : List (Int × Int)))]))), (5, _)] ⟨(keep_mut h4 rfl), h5⟩ ?_
  rintro s ⟨h4, h5⟩
  refine .nsq (.ret ?_)
  have hr := Option.some.inj h
  subst hr
  exact rrB (res_cell h4 (by kernel_rfl)) (res_tmp h5) (fin_ret1 (fin_tup (fins_cons (fin_enc (x := (r_5 : ((List (List Int)) × (List (Int × Int)))))) (fins_cons (fin_enc (x := (true : Bool))) fins_nil))))
def s_DecompositionOf (F : Nat) (x_1 : (Int × (List (Int × Int)))) (x_2 : (List Int)) : Option (((List (List Int)) × (List (Int × Int))) × Bool) :=
  (s_l5Order F x_1 x_2).bind fun r_6 =>
  bif (!r_6) then
    s_DecompositionOf_j1 F x_2 x_1 true
  else
    s_DecompositionOf_j1 F x_2 x_1 (x_1.1 == 0)
theorem t43 (H : H43 D σ F) (x_1 : (Int × (List (Int × Int)))) (x_2 : (List Int)) (s : Nat → V) (hs : Facts [(0, (.agg [(ji x_1.1), (Enc.enc (x_1.2 : List (Int × Int)))])), (1, (eL x_2))] s) (h : s_DecompositionOf F x_1 x_2 = some r) : Run D σ (R43 r) (.run A43 []) s := by
  unfold s_DecompositionOf at h
  obtain ⟨h0, h1⟩ := hs
  refine .seq (run_reg ?_)
  refine e_clr ?_
  refine ez [(0, _), (1, _), (2, _), (4, _)] ⟨(keep_clear (pk := [2, 4]) h0 rfl (map_agg (maps_cons mi (maps_cons me maps_nil)))), (keep_clear (pk := [2, 4]) h1 rfl me), (gone_clear (pk := [2, 4]) (t := 2) rfl), (gone_clear (pk := [2, 4]) (t := 4) rfl)⟩ ?_
  rintro s ⟨h0, h1, h2, h4⟩
  refine g_box (.agg [(ji x_1.1), (Enc.enc (x_1.2 : List (Int × Int)))]) (rd_of h0 rfl) h2 rfl ?_
  refine g_alloc h4 ?_
  refine g0 (jb false) fun h5 => ?_
  refine gq (.nsq (.seq (.seq (rg (g1 2 (.agg [(ji x_1.1), (Enc.enc (x_1.2 : List (Int × Int)))]) (rfl : (_ : V) = (.ref (.bx 2) 0 [] (.agg [(ji x_1.1), (Enc.enc (x_1.2 : List (Int × Int)))]))) fun h6 => ?_)))))
  refine gm h1 fun h7 => ?_
  obtain ⟨r_6, E_r_6, h⟩ := bind_some h
  refine g_call (m := 0) (al := false) (r := (Enc.enc (r_6 : Bool))) [Enc.enc (x_1 : (Int × (List (Int × Int)))), Enc.enc (x_2 : (List Int))] (ta_cons (v := (.agg [(ji x_1.1), (Enc.enc (x_1.2 : List (Int × Int)))])) h6 rfl (Enc.erase_enc (x_1 : (Int × (List (Int × Int))))) (ta_cons (v := (eL x_2)) h7 rfl (Enc.erase_enc (x_2 : (List Int))) ta_nil)) (H.c60 _ _ _ E_r_6) H.g60 rfl rfl rfl rfl ?_
  refine g1 8 (jb (!r_6)) (rfl : (_ : V) = (jb r_6)) fun h9 => ?_
  refine gm h9 fun h10 => split_on (c := (!r_6)) h (fun hg5 h => ?_) (fun hg5 h => ?_)
  · refine g_no (h10.trans (congrArg V.bool hg5)) ?_
    refine g_no (h10.trans (congrArg V.bool hg5)) ?_
    refine g_no (h10.trans (congrArg V.bool hg5)) ?_
    refine g2 10 13 (jb true) (h10.trans (congrArg V.bool hg5)) (rfl : (_ : V) = (.tup [])) fun h14 => ?_
    refine gq ?_
    exact t_f43_j1 H x_2 x_1 true _ ⟨h1, rfl, rfl, h5, h14⟩ h
  refine g_yes (h10.trans (congrArg V.bool hg5)) (g1 2 (.ref (.bx 2) 0 [0] (ji x_1.1)) (rfl : (_ : V) = (.ref (.bx 2) 0 [] (.agg [(ji x_1.1), (Enc.enc (x_1.2 : List (Int × Int)))]))) fun h11 => ?_)
  refine g_yes (h10.trans (congrArg V.bool hg5)) (g1 11 (ji x_1.1) h11 fun h12 => ?_)
  refine g_yes (h10.trans (congrArg V.bool hg5)) (g1 12 (jb (x_1.1 == 0)) h12 fun h13 => ?_)
  refine g2 10 13 (jb (x_1.1 == 0)) (h10.trans (congrArg V.bool hg5)) h13 fun h14 => ?_
  refine gq ?_
  exact t_f43_j1 H x_2 x_1 (x_1.1 == 0) _ ⟨h1, rfl, rfl, h5, h14⟩ h
end
def e43 (F : Nat) : Ent := ent 43 (fun (x : ((Int × (List (Int × Int))) × (List Int) × Unit)) => s_DecompositionOf F x.1 x.2.1) (fun (r : (((List (List Int)) × (List (Int × Int))) × Bool)) => (.tup [Enc.enc (r.1 : ((List (List Int)) × (List (Int × Int)))), Enc.enc (r.2 : Bool)])) 0 true []
theorem p43 {F : Nat} {x0 : (Int × (List (Int × Int)))} {x1 : (List Int)} {r : (((List (List Int)) × (List (Int × Int))) × Bool)} (h : s_DecompositionOf F x0 x1 = some r) : (e43 F).den [Enc.enc x0, Enc.enc x1] = some (.tup [Enc.enc (r.1 : ((List (List Int)) × (List (Int × Int)))), Enc.enc (r.2 : Bool)]) := ent_put (x0, x1, ()) h
theorem o43 {D : Den} {σ : Sig} {F : Nat} (hF : Fits2 Try.prog D σ) (H : H43 D σ F) : (e43 F).Ok Try.prog := by
  refine ok_of (f := 43) (show unk 43 = 43 from rfl) (fun args r h => ?_) ⟨Try.f43, Try.func43, rfl, rfl⟩
  obtain ⟨⟨x0, x1, _⟩, y, rfl, hy, rfl⟩ := da_open h
  exact contract_run hF (by kernel_rfl) Try.func43 rfl c43 (show 2 ≤ Try.f43.ntmps by decide) (t43 H x0 x1 _ ⟨rfl, rfl⟩ hy)
/- loop.example/g01109/impl.within -/
def A105_1 : AC := (.seq (.reg [] [(jm 7 0), (jm 8 1), ((jv 9 (.bin .geq (.t 7) (.t 8)))), (jm 10 9), ((jg 11 10 true (.mov (.t 0)))), ((jg 12 10 true (.mov (.t 2)))), ((jg 13 10 true (.bin .leq (.t 11) (.t 12)))), ((jv 14 (.pick (.t 10) (.t 13) (.k (.bool false))))), (jm 6 14)] []) .ret)
def A105 : AC := (.seq (.reg [] [((jv 6 (.mov (.k (.bool false)))))] []) A105_1)
def an105 : List An := []
theorem c105 : cC Try.prog Try.f105.ntmps an105 (Try.f105.body.getD .skip) = some A105 := by kernel_rfl
structure H105 (D : Den) (σ : Sig) (F : Nat) : Prop where
  mk ::
abbrev R105 (r : Bool) : (Nat → V) → Prop := RR Try.prog [.tmp 6] 0 false (Enc.enc (r : Bool))
section
variable {D : Den} {σ : Sig} {F : Nat} {r : Bool}
def i_within (F : Nat) (x_1 : Int) (x_2 : Int) (x_3 : Int) : Option Bool :=
  bif decide (x_1 ≥ x_2) then
    some (decide (x_1 ≤ x_3))
  else
    some false
theorem t105 (H : H105 D σ F) (x_1 : Int) (x_2 : Int) (x_3 : Int) (s : Nat → V) (hs : Facts [(0, (ji x_1)), (1, (ji x_2)), (2, (ji x_3))] s) (h : i_within F x_1 x_2 x_3 = some r) : Run D σ (R105 r) (.run A105 []) s := by
  unfold i_within at h
  obtain ⟨h0, h1, h2⟩ := hs
  refine .seq (rg (g0 (jb false) fun h6 => ?_))
  refine gq (.nsq (.seq (rg (gm h0 fun h7 => gm h1 fun h8 => g2 7 8 (jb (decide (x_1 ≥ x_2))) h7 h8 fun h9 => ?_))))
  refine gm h9 fun h10 => split_on (c := decide (x_1 ≥ x_2)) h (fun hg4 h => ?_) (fun hg4 h => ?_)
  · refine g_yes (h10.trans (congrArg V.bool hg4)) (gm h0 fun h11 => ?_)
    refine g_yes (h10.trans (congrArg V.bool hg4)) (gm h2 fun h12 => ?_)
    refine g_yes (h10.trans (congrArg V.bool hg4)) (g2 11 12 (jb (decide (x_1 ≤ x_3))) h11 h12 fun h13 => ?_)
    refine g2 10 13 (jb (decide (x_1 ≤ x_3))) (h10.trans (congrArg V.bool hg4)) h13 fun h14 => ?_
    refine gm h14 fun h6 => gq (.nsq (.ret ?_))
    have hr := Option.some.inj h
    subst hr
    exact rrA (res_tmp h6) rfl
  refine g_no (h10.trans (congrArg V.bool hg4)) ?_
  refine g_no (h10.trans (congrArg V.bool hg4)) ?_
  refine g_no (h10.trans (congrArg V.bool hg4)) ?_
  refine g2 10 13 (jb false) (h10.trans (congrArg V.bool hg4)) (rfl : (_ : V) = (.tup [])) fun h14 => ?_
  refine gm h14 fun h6 => gq (.nsq (.ret ?_))
  have hr := Option.some.inj h
  subst hr
  exact rrA (res_tmp h6) rfl
end
def e105 (F : Nat) : Ent := ent 105 (fun (x : (Int × Int × Int × Unit)) => i_within F x.1 x.2.1 x.2.2.1) (fun (r : Bool) => (Enc.enc (r : Bool))) 0 false []
theorem p105 {F : Nat} {x0 : Int} {x1 : Int} {x2 : Int} {r : Bool} (h : i_within F x0 x1 x2 = some r) : (e105 F).den [Enc.enc x0, Enc.enc x1, Enc.enc x2] = some (Enc.enc (r : Bool)) := ent_put (x0, x1, x2, ()) h
theorem o105 {D : Den} {σ : Sig} {F : Nat} (hF : Fits2 Try.prog D σ) (H : H105 D σ F) : (e105 F).Ok Try.prog := by
  refine ok_of (f := 105) (show unk 105 = 105 from rfl) (fun args r h => ?_) ⟨Try.f105, Try.func105, rfl, rfl⟩
  obtain ⟨⟨x0, x1, x2, _⟩, y, rfl, hy, rfl⟩ := da_open h
  exact contract_run hF (by kernel_rfl) Try.func105 rfl c105 (show 3 ≤ Try.f105.ntmps by decide) (t105 H x0 x1 x2 _ ⟨rfl, rfl, rfl⟩ hy)
/- cmp.isNaN[int] -/
def A180_1 : AC := (.seq (.reg [] [(jm 3 0), (jm 4 0), ((jv 5 (.bin .neq (.t 3) (.t 4)))), (jm 2 5)] []) .ret)
def A180 : AC := (.seq (.reg [] [((jv 2 (.mov (.k (.bool false)))))] []) A180_1)
def an180 : List An := []
theorem c180 : cC Try.prog Try.f180.ntmps an180 (Try.f180.body.getD .skip) = some A180 := by kernel_rfl
structure H180 (D : Den) (σ : Sig) (F : Nat) : Prop where
  mk ::
abbrev R180 (r : Bool) : (Nat → V) → Prop := RR Try.prog [.tmp 2] 0 false (Enc.enc (r : Bool))
section
variable {D : Den} {σ : Sig} {F : Nat} {r : Bool}
def cmp_isNaN_int (F : Nat) (x_1 : Int) : Option Bool :=
  some (x_1 != x_1)
theorem t180 (H : H180 D σ F) (x_1 : Int) (s : Nat → V) (hs : Facts [(0, (ji x_1))] s) (h : cmp_isNaN_int F x_1 = some r) : Run D σ (R180 r) (.run A180 []) s := by
  unfold cmp_isNaN_int at h
  have h0 := hs
  refine .seq (rg (g0 (jb false) fun h2 => ?_))
  refine gq (.nsq (.seq (rg (gm h0 fun h3 => gm h0 fun h4 => g2 3 4 (jb (x_1 != x_1)) h3 h4 fun h5 => ?_))))
  refine gm h5 fun h2 => gq (.nsq (.ret ?_))
  have hr := Option.some.inj h
  subst hr
  exact rrA (res_tmp h2) rfl
end
def e180 (F : Nat) : Ent := ent 180 (fun (x : (Int × Unit)) => cmp_isNaN_int F x.1) (fun (r : Bool) => (Enc.enc (r : Bool))) 0 false []
theorem p180 {F : Nat} {x0 : Int} {r : Bool} (h : cmp_isNaN_int F x0 = some r) : (e180 F).den [Enc.enc x0] = some (Enc.enc (r : Bool)) := ent_put (x0, ()) h
theorem o180 {D : Den} {σ : Sig} {F : Nat} (hF : Fits2 Try.prog D σ) (H : H180 D σ F) : (e180 F).Ok Try.prog := by
  refine ok_of (f := 180) (show unk 180 = 180 from rfl) (fun args r h => ?_) ⟨Try.f180, Try.func180, rfl, rfl⟩
  obtain ⟨⟨x0, _⟩, y, rfl, hy, rfl⟩ := da_open h
  exact contract_run hF (by kernel_rfl) Try.func180 rfl c180 (show 1 ≤ Try.f180.ntmps by decide) (t180 H x0 _ rfl hy)
/- cmp.Compare[int] -/
def A153_5 : AC := (.cond (.t 12) (.seq (.reg [] [((jv 4 (.mov (jn 0))))] []) .ret) .skip)
def A153_6 : AC := (.seq (.reg [] [((jv 4 (.mov (jn (-1)))))] []) .ret)
def A153_4 : AC := (.cond (.t 11) (.seq (.seq (.reg [] [(jm 12 6)] []) A153_5) A153_6) .skip)
def A153_8 : AC := (.cond (.t 13) (.seq (.reg [] [((jv 4 (.mov (jn 1))))] []) .ret) .skip)
def A153_10 : AC := (.cond (.t 16) (.seq (.reg [] [((jv 4 (.mov (jn (-1)))))] []) .ret) .skip)
def A153_12 : AC := (.cond (.t 19) (.seq (.reg [] [((jv 4 (.mov (jn 1))))] []) .ret) .skip)
def A153_13 : AC := (.seq (.reg [] [((jv 4 (.mov (jn 0))))] []) .ret)
def A153_11 : AC := (.seq (.seq (.reg [] [(jm 17 0), (jm 18 1), ((jv 19 (.bin .gtr (.t 17) (.t 18))))] []) A153_12) A153_13)
def A153_9 : AC := (.seq (.seq (.reg [] [(jm 14 0), (jm 15 1), ((jv 16 (.bin .lss (.t 14) (.t 15))))] []) A153_10) A153_11)
def A153_7 : AC := (.seq (.seq (.reg [] [(jm 13 6)] []) A153_8) A153_9)
def A153_3 : AC := (.seq (.seq (.reg [] [(jm 11 5)] []) A153_4) A153_7)
def A153_2 : AC := (.seq (.reg [] [(jm 9 1), (.mk (some 10) none false (.call (.k (.fn 180 [] [])) [(.t 9)])), (jm 6 10)] []) A153_3)
def A153_1 : AC := (.seq (.reg [] [(jm 7 0), (.mk (some 8) none false (.call (.k (.fn 180 [] [])) [(.t 7)])), (jm 5 8)] []) A153_2)
def A153 : AC := (.seq (.reg [] [((jv 4 (.mov (jn 0))))] []) A153_1)
def an153 : List An := []
theorem c153 : cC Try.prog Try.f153.ntmps an153 (Try.f153.body.getD .skip) = some A153 := by kernel_rfl
structure H153 (D : Den) (σ : Sig) (F : Nat) : Prop where
  c180 : ∀ (x0 : Int) r, cmp_isNaN_int F x0 = some r → D 180 [Enc.enc x0] = some (Enc.enc (r : Bool))
  g180 : σ 180 = some (0, false)
abbrev R153 (r : Int) : (Nat → V) → Prop := RR Try.prog [.tmp 4] 0 false (Enc.enc (r : Int))
section
variable {D : Den} {σ : Sig} {F : Nat} {r : Int}
def cmp_Compare_int (F : Nat) (x_1 : Int) (x_2 : Int) : Option Int :=
  (cmp_isNaN_int F x_1).bind fun r_3 =>
  (cmp_isNaN_int F x_2).bind fun r_4 =>
  bif r_3 then
    bif r_4 then
      some 0
    else
      some (-1)
  else
    bif r_4 then
      some 1
    else
      bif decide (x_1 < x_2) then
        some (-1)
      else
        bif decide (x_1 > x_2) then
          some 1
        else
          some 0
theorem t153 (H : H153 D σ F) (x_1 : Int) (x_2 : Int) (s : Nat → V) (hs : Facts [(0, (ji x_1)), (1, (ji x_2))] s) (h : cmp_Compare_int F x_1 x_2 = some r) : Run D σ (R153 r) (.run A153 []) s := by
  unfold cmp_Compare_int at h
  obtain ⟨h0, h1⟩ := hs
  refine .seq (rg (g0 (ji 0) fun h4 => gq (.nsq (.seq (rg (gm h0 fun h7 => ?_))))))
  obtain ⟨r_3, E_r_3, h⟩ := bind_some h
  refine g_call (m := 0) (al := false) (r := (Enc.enc (r_3 : Bool))) [Enc.enc (x_1 : Int)] (ta_cons (v := (ji x_1)) h7 rfl rfl ta_nil) (H.c180 _ _ E_r_3) H.g180 rfl rfl rfl rfl ?_
  refine gm (rfl : (_ : V) = (jb r_3)) fun h5 => ?_
  refine gq (.nsq (.seq (rg (gm h1 fun h9 => ?_))))
  obtain ⟨r_4, E_r_4, h⟩ := bind_some h
  refine g_call (m := 0) (al := false) (r := (Enc.enc (r_4 : Bool))) [Enc.enc (x_2 : Int)] (ta_cons (v := (ji x_2)) h9 rfl rfl ta_nil) (H.c180 _ _ E_r_4) H.g180 rfl rfl rfl rfl ?_
  refine gm (rfl : (_ : V) = (jb r_4)) fun h6 => ?_
  refine gq (.nsq (.seq (.seq (rg (gm h5 fun h11 => gq (.nsq (run_cond (t := r_3) h11 h (fun h => ?_) (fun h => ?_))))))))
  · refine .seq (.seq (rg (gm h6 fun h12 => gq (.nsq (run_cond (t := r_4) h12 h (fun h => ?_) (fun h => ?_))))))
    · refine .seq (rg (g0 (ji 0) fun h4 => gq (.nsq (.ret ?_))))
      have hr := Option.some.inj h
      subst hr
      exact rrA (res_tmp h4) rfl
    refine .skip (.nsq (.seq (rg (g0 (ji (-1)) fun h4 => ?_))))
    refine gq (.nsq (.ret ?_))
    have hr := Option.some.inj h
    subst hr
    exact rrA (res_tmp h4) rfl
  refine .skip (.nsq (.seq (.seq (rg (gm h6 fun h13 => gq (.nsq (run_cond (t := r_4) h13 h (fun h => ?_) (fun h => ?_))))))))
  · refine .seq (rg (g0 (ji 1) fun h4 => gq (.nsq (.ret ?_))))
    have hr := Option.some.inj h
    subst hr
    exact rrA (res_tmp h4) rfl
  refine .skip (.nsq (.seq (.seq (rg (gm h0 fun h14 => gm h1 fun h15 => g2 14 15 (jb (decide (x_1 < x_2))) h14 h15 fun h16 => ?_)))))
  refine gq (.nsq (run_cond (t := decide (x_1 < x_2)) h16 h (fun h => ?_) (fun h => ?_)))
  · refine .seq (rg (g0 (ji (-1)) fun h4 => ?_))
    refine gq (.nsq (.ret ?_))
    have hr := Option.some.inj h
    subst hr
    exact rrA (res_tmp h4) rfl
  refine .skip (.nsq (.seq (.seq (rg (gm h0 fun h17 => gm h1 fun h18 => g2 17 18 (jb (decide (x_1 > x_2))) h17 h18 fun h19 => ?_)))))
  refine gq (.nsq (run_cond (t := decide (x_1 > x_2)) h19 h (fun h => ?_) (fun h => ?_)))
  · refine .seq (rg (g0 (ji 1) fun h4 => gq (.nsq (.ret ?_))))
    have hr := Option.some.inj h
    subst hr
    exact rrA (res_tmp h4) rfl
  refine .skip (.nsq (.seq (rg (g0 (ji 0) fun h4 => gq (.nsq (.ret ?_))))))
  have hr := Option.some.inj h
  subst hr
  exact rrA (res_tmp h4) rfl
end
def e153 (F : Nat) : Ent := ent 153 (fun (x : (Int × Int × Unit)) => cmp_Compare_int F x.1 x.2.1) (fun (r : Int) => (Enc.enc (r : Int))) 0 false []
theorem p153 {F : Nat} {x0 : Int} {x1 : Int} {r : Int} (h : cmp_Compare_int F x0 x1 = some r) : (e153 F).den [Enc.enc x0, Enc.enc x1] = some (Enc.enc (r : Int)) := ent_put (x0, x1, ()) h
theorem o153 {D : Den} {σ : Sig} {F : Nat} (hF : Fits2 Try.prog D σ) (H : H153 D σ F) : (e153 F).Ok Try.prog := by
  refine ok_of (f := 153) (show unk 153 = 153 from rfl) (fun args r h => ?_) ⟨Try.f153, Try.func153, rfl, rfl⟩
  obtain ⟨⟨x0, x1, _⟩, y, rfl, hy, rfl⟩ := da_open h
  exact contract_run hF (by kernel_rfl) Try.func153 rfl c153 (show 2 ≤ Try.f153.ntmps by decide) (t153 H x0 x1 _ ⟨rfl, rfl⟩ hy)
/- slices.Compare[[]int,int] -/
def A94_5 : AC := (.cond (.t 19) (.seq (.reg [] [((jv 4 (.mov (jn 1))))] []) .ret) .skip)
def A94_9 : AC := (.cond (.t 28) (.seq (.reg [] [(jm 29 8), (jm 4 29)] []) .ret) .skip)
def A94_8 : AC := (.seq (.reg [] [(jm 27 8), ((jv 28 (.bin .neq (.t 27) (jn 0))))] []) A94_9)
def A94_7 : AC := (.seq (.reg [] [(jm 24 6), (jm 25 7), (.mk (some 26) none false (.call (.k (.fn 153 [] [])) [(.t 24), (.t 25)])), (jm 8 26)] []) A94_8)
def A94_6 : AC := (.seq (.reg [] [(jm 20 1), (jm 21 5), ((jv 22 (.idx (.t 20) (.t 21) 1))), ((jv 23 (.load .s (.t 22)))), (jm 7 23)] []) A94_7)
def A94_4 : AC := (.seq (.seq (.reg [] [(jm 16 5), (jm 17 1), ((jv 18 (.len (.t 17)))), ((jv 19 (.bin .geq (.t 16) (.t 18))))] []) A94_5) A94_6)
def A94_10 : AC := (.reg [] [((jv 30 (.bin .add (.t 11) (jn 1)))), (jm 11 30)] [])
def A94_3 : AC := (.seq (.block 1 (.seq (.reg [] [(jm 13 11), ((jv 14 (.idx (.t 9) (.t 11) 1))), ((jv 15 (.load .s (.t 14)))), (jm 5 13), (jm 6 15)] []) A94_4)) A94_10)
def A94_2 : AC := (.seq (.cond (.t 12) .skip (.exit 0)) A94_3)
def A94_1 : AC := (.seq (.reg [] [((jv 12 (.bin .lss (.t 11) (.t 10))))] []) A94_2)
def A94_12 : AC := (.cond (.t 35) (.seq (.reg [] [((jv 4 (.mov (jn (-1)))))] []) .ret) .skip)
def A94_13 : AC := (.seq (.reg [] [((jv 4 (.mov (jn 0))))] []) .ret)
def A94_11 : AC := (.seq (.seq (.reg [] [(jm 31 0), ((jv 32 (.len (.t 31)))), (jm 33 1), ((jv 34 (.len (.t 33)))), ((jv 35 (.bin .lss (.t 32) (.t 34))))] []) A94_12) A94_13)
def A94_15 : AC := (.block 0 (.loop A94_1))
def A94_14 : AC := (.seq (.seq (.reg [] [(jm 9 0), ((jv 10 (.len (.t 9)))), ((jv 11 (.mov (jn 0))))] []) A94_15) A94_11)
def A94 : AC := (.seq (.reg [] [((jv 4 (.mov (jn 0))))] []) A94_14)
def an94 : List An := []
theorem c94 : cC Try.prog Try.f94.ntmps an94 (Try.f94.body.getD .skip) = some A94 := by kernel_rfl
structure H94 (D : Den) (σ : Sig) (F : Nat) : Prop where
  c153 : ∀ (x0 : Int) (x1 : Int) r, cmp_Compare_int F x0 x1 = some r → D 153 [Enc.enc x0, Enc.enc x1] = some (Enc.enc (r : Int))
  g153 : σ 153 = some (0, false)
abbrev R94 (r : Int) : (Nat → V) → Prop := RR Try.prog [.tmp 4] 0 false (Enc.enc (r : Int))
section
variable {D : Den} {σ : Sig} {F : Nat} {r : Int}
def slices_Compare_l1 (F : Nat) (x_1 : (List Int)) (x_2 : (List Int))  : Nat → Int → Option Int
  | 0, _ => none
  | k + 1, x_6 =>
    bif decide (x_6 < (x_1.length : Int)) then
      (idx x_1 x_6).bind fun e_10 =>
      bif decide (x_6 ≥ (x_2.length : Int)) then
        some 1
      else
        (idx x_2 x_6).bind fun e_11 =>
        (cmp_Compare_int F e_10 e_11).bind fun r_12 =>
        bif (r_12 != 0) then
          some r_12
        else
          (slices_Compare_l1 F x_1 x_2 k) (w64 (x_6 + 1))
    else
      bif decide ((x_1.length : Int) < (x_2.length : Int)) then
        some (-1)
      else
        some 0
theorem t_f94_l1 (H : H94 D σ F) (x_1 : (List Int)) (x_2 : (List Int))  : ∀ (k : Nat) (x_6 : Int) (s : Nat → V), Facts [(0, (eL x_1)), (1, (eL x_2)), (4, (ji 0)), (9, (eL x_1)), (10, (ji (x_1.length : Int))), (11, (ji x_6))] s → slices_Compare_l1 F x_1 x_2 k x_6 = some r → Run D σ (R94 r) (.run A94_1 [.lp A94_1, .bk 0, .sq A94_11]) s := by
  intro k
  induction k with
  | zero => intro x_6 s _ h; exact nomatch (h : (none : Option _) = some r)
  | succ k ih =>
    intro x_6 s hs h
    rw [slices_Compare_l1] at h
    obtain ⟨h0, h1, h4, h9, h10, h11⟩ := hs
    refine .seq (rg (g2 11 10 (jb (decide (x_6 < (x_1.length : Int)))) h11 h10 fun h12 => ?_))
    refine gq (.nsq (.seq (run_cond (t := decide (x_6 < (x_1.length : Int))) h12 h (fun h => ?_) (fun h => ?_))))
    · refine .skip (.nsq (.seq (.block (.seq (rg (gm h11 fun h13 => ?_))))))
      obtain ⟨e_10, E_e_10, h⟩ := bind_some h
      refine gv (.ref .sh 0 [] (ji e_10)) (ev_idx (t := .sh) (lo := 0) (xs := x_1) h9 h11 E_e_10 rfl rfl) fun h14 => ?_
      refine g1 14 (ji e_10) h14 fun h15 => ?_
      refine gm h13 fun h5 => gm h15 fun h6 => gq (.nsq (.seq (.seq (rg (gm h5 fun h16 => gm h1 fun h17 => gv (ji (x_2.length : Int)) (ev_len (xs := x_2) h17) fun h18 => ?_)))))
      refine g2 16 18 (jb (decide (x_6 ≥ (x_2.length : Int)))) h16 h18 fun h19 => ?_
      refine gq (.nsq (run_cond (t := decide (x_6 ≥ (x_2.length : Int))) h19 h (fun h => ?_) (fun h => ?_)))
      · refine .seq (rg (g0 (ji 1) fun h4 => gq (.nsq (.ret ?_))))
        have hr := Option.some.inj h
        subst hr
        exact rrA (res_tmp h4) rfl
      refine .skip (.nsq (.seq (rg (gm h1 fun h20 => gm h5 fun h21 => ?_))))
      obtain ⟨e_11, E_e_11, h⟩ := bind_some h
      refine gv (.ref .sh 0 [] (ji e_11)) (ev_idx (t := .sh) (lo := 0) (xs := x_2) h20 h21 E_e_11 rfl rfl) fun h22 => ?_
      refine g1 22 (ji e_11) h22 fun h23 => ?_
      refine gm h23 fun h7 => gq (.nsq (.seq (rg (gm h6 fun h24 => gm h7 fun h25 => ?_))))
      obtain ⟨r_12, E_r_12, h⟩ := bind_some h
      refine g_call (m := 0) (al := false) (r := (Enc.enc (r_12 : Int))) [Enc.enc (e_10 : Int), Enc.enc (e_11 : Int)] (ta_cons (v := (ji e_10)) h24 rfl rfl (ta_cons (v := (ji e_11)) h25 rfl rfl ta_nil)) (H.c153 _ _ _ E_r_12) H.g153 rfl rfl rfl rfl ?_
      refine gm (rfl : (_ : V) = (ji r_12)) fun h8 => ?_
      refine gq (.nsq (.seq (rg (gm h8 fun h27 => g1 27 (jb (r_12 != 0)) h27 fun h28 => ?_))))
      refine gq (.nsq (run_cond (t := (r_12 != 0)) h28 h (fun h => ?_) (fun h => ?_)))
      · refine .seq (rg (gm h8 fun h29 => gm h29 fun h4 => gq (.nsq (.ret ?_))))
        have hr := Option.some.inj h
        subst hr
        exact rrA (res_tmp h4) rfl
      refine .skip (.nbk (.nsq (rg (g1 11 (ji (w64 (x_6 + 1))) h11 fun h30 => ?_))))
      refine gm h30 fun h11 => gq (.nlp ?_)
      exact ih (w64 (x_6 + 1)) _ ⟨h0, h1, h4, h9, h10, h11⟩ h
    refine .exit (.esq (.elp (.ebk (.nsq (.seq (.seq (rg (gm h0 fun h31 => gv (ji (x_1.length : Int)) (ev_len (xs := x_1) h31) fun h32 => ?_))))))))
    refine gm h1 fun h33 => gv (ji (x_2.length : Int)) (ev_len (xs := x_2) h33) fun h34 => ?_
    refine g2 32 34 (jb (decide ((x_1.length : Int) < (x_2.length : Int)))) h32 h34 fun h35 => ?_
    refine gq (.nsq (run_cond (t := decide ((x_1.length : Int) < (x_2.length : Int))) h35 h (fun h => ?_) (fun h => ?_)))
    · refine .seq (rg (g0 (ji (-1)) fun h4 => ?_))
      refine gq (.nsq (.ret ?_))
      have hr := Option.some.inj h
      subst hr
      exact rrA (res_tmp h4) rfl
    refine .skip (.nsq (.seq (rg (g0 (ji 0) fun h4 => gq (.nsq (.ret ?_))))))
    have hr := Option.some.inj h
    subst hr
    exact rrA (res_tmp h4) rfl
def slices_Compare (F : Nat) (x_1 : (List Int)) (x_2 : (List Int)) : Option Int :=
  slices_Compare_l1 F x_1 x_2 F 0
theorem t94 (H : H94 D σ F) (x_1 : (List Int)) (x_2 : (List Int)) (s : Nat → V) (hs : Facts [(0, (eL x_1)), (1, (eL x_2))] s) (h : slices_Compare F x_1 x_2 = some r) : Run D σ (R94 r) (.run A94 []) s := by
  unfold slices_Compare at h
  obtain ⟨h0, h1⟩ := hs
  refine .seq (rg (g0 (ji 0) fun h4 => gq (.nsq (.seq (.seq (rg (gm h0 fun h9 => gv (ji (x_1.length : Int)) (ev_len (xs := x_1) h9) fun h10 => ?_)))))))
  refine g0 (ji 0) fun h11 => gq (.nsq (.block (.loop ?_)))
  exact t_f94_l1 H x_1 x_2 F 0 _ ⟨h0, h1, h4, h9, h10, h11⟩ h
end
def e94 (F : Nat) : Ent := ent 94 (fun (x : ((List Int) × (List Int) × Unit)) => slices_Compare F x.1 x.2.1) (fun (r : Int) => (Enc.enc (r : Int))) 0 false []
theorem p94 {F : Nat} {x0 : (List Int)} {x1 : (List Int)} {r : Int} (h : slices_Compare F x0 x1 = some r) : (e94 F).den [Enc.enc x0, Enc.enc x1] = some (Enc.enc (r : Int)) := ent_put (x0, x1, ()) h
theorem o94 {D : Den} {σ : Sig} {F : Nat} (hF : Fits2 Try.prog D σ) (H : H94 D σ F) : (e94 F).Ok Try.prog := by
  refine ok_of (f := 94) (show unk 94 = 94 from rfl) (fun args r h => ?_) ⟨Try.f94, Try.func94, rfl, rfl⟩
  obtain ⟨⟨x0, x1, _⟩, y, rfl, hy, rfl⟩ := da_open h
  exact contract_run hF (by kernel_rfl) Try.func94 rfl c94 (show 2 ≤ Try.f94.ntmps by decide) (t94 H x0 x1 _ ⟨rfl, rfl⟩ hy)
/- loop.example/g01109/impl.IsGraph -/
def A63_5 : AC := (.cond (.t 48) (.seq (.reg [] [((jv 2 (.mov (.k (.bool false)))))] []) .ret) .skip)
def A63_4 : AC := (.seq (.reg [] [((jv 17 (.idxA (.t 4) (jn 0) 2 1))), ((jv 18 (.load .s (.t 17)))), ((jv 19 (.bin .lss (.t 18) (jn 0)))), (jm 20 19), ((jg 21 20 false (.idxA (.t 4) (jn 0) 2 1))), ((jg 22 20 false (.load .s (.t 21)))), ((jg 23 20 false (.idxA (.t 4) (jn 1) 2 1))), ((jg 24 20 false (.load .s (.t 23)))), ((jg 25 20 false (.bin .geq (.t 22) (.t 24)))), ((jv 26 (.pick (.t 20) (.k (.bool true)) (.t 25)))), (jm 27 26), ((jg 28 27 false (.idxA (.t 4) (jn 1) 2 1))), ((jg 29 27 false (.load .s (.t 28)))), ((jg 30 27 false (.fld (.t 1) 0 0))), ((jg 31 27 false (.load .s (.t 30)))), ((jg 32 27 false (.bin .geq (.t 29) (.t 31)))), ((jv 33 (.pick (.t 27) (.k (.bool true)) (.t 32)))), (jm 34 33), ((jg 35 34 false (.mov (.t 3)))), ((jg 36 34 false (.bin .gtr (.t 35) (jn 0)))), ((jg 37 34 false (.mov (.t 36)))), ((jg 38 37 true (.fld (.t 1) 1 1))), ((jg 39 37 true (.load .p (.t 38)))), ((jg 40 37 true (.mov (.t 3)))), ((jg 41 37 true (.bin .sub (.t 40) (jn 1)))), ((jg 42 37 true (.idx (.t 39) (.t 41) 2))), ((jg 43 37 true (.sliceA (.t 42) 2 .s))), ((jg 44 37 true (.sliceA (.t 4) 2 .s))), (.mk (some 45) (some (37, true)) false (.call (.k (.fn 94 [] [])) [(.t 43), (.t 44)])), ((jg 46 37 true (.bin .geq (.t 45) (jn 0)))), ((jg 47 34 false (.pick (.t 37) (.t 46) (.k (.bool false))))), ((jv 48 (.pick (.t 34) (.k (.bool true)) (.t 47))))] []) A63_5)
def A63_6 : AC := (.reg [] [((jv 49 (.bin .add (.t 12) (jn 1)))), (jm 12 49)] [])
def A63_3 : AC := (.seq (.block 1 (.seq (.reg [.clr [4]] [(jm 14 12), ((jv 15 (.idx (.t 10) (.t 12) 2))), ((jv 16 (.load (.ag [.s, .s]) (.t 15)))), (.mk (some 4) none false (.alloc (.agg [(.int .i64 (.ofNat 0)), (.int .i64 (.ofNat 0))]))), (jm 3 14), (.mk none none false (.store (.ag [.s, .s]) (.t 4) (.t 16)))] []) A63_4)) A63_6)
def A63_2 : AC := (.seq (.cond (.t 13) .skip (.exit 0)) A63_3)
def A63_1 : AC := (.seq (.reg [] [((jv 13 (.bin .lss (.t 12) (.t 11))))] []) A63_2)
def A63_7 : AC := (.seq (.reg [] [((jv 2 (.mov (.k (.bool true)))))] []) .ret)
def A63_9 : AC := (.cond (.t 8) (.seq (.reg [] [((jv 2 (.mov (.k (.bool false)))))] []) .ret) .skip)
def A63_11 : AC := (.block 0 (.loop A63_1))
def A63_10 : AC := (.seq (.seq (.reg [] [((jv 9 (.fld (.t 1) 1 1))), ((jv 10 (.load .p (.t 9)))), ((jv 11 (.len (.t 10)))), ((jv 12 (.mov (jn 0))))] []) A63_11) A63_7)
def A63_8 : AC := (.seq (.seq (.reg [] [((jv 5 (.fld (.t 1) 0 0))), ((jv 6 (.load .s (.t 5)))), (.mk (some 7) none false (.call (.k (.fn 105 [] [])) [(.t 6), (jn 0), (jn 8)])), ((jv 8 (.un .not (.t 7))))] []) A63_9) A63_10)
def A63 : AC := (.seq (.reg [.clr [1]] [(.mk (some 1) none false (.box (.t 0))), ((jv 2 (.mov (.k (.bool false)))))] []) A63_8)
def an63 : List An := [{ id := 0, pre := [.clr [1]], ep := [], lin := [], sp := [] }, { id := 5, pre := [.clr [4]], ep := [], lin := [], sp := [] }]
theorem c63 : cC Try.prog Try.f63.ntmps an63 (Try.f63.body.getD .skip) = some A63 := by kernel_rfl
structure H63 (D : Den) (σ : Sig) (F : Nat) : Prop where
  c105 : ∀ (x0 : Int) (x1 : Int) (x2 : Int) r, i_within F x0 x1 x2 = some r → D 105 [Enc.enc x0, Enc.enc x1, Enc.enc x2] = some (Enc.enc (r : Bool))
  g105 : σ 105 = some (0, false)
  c94 : ∀ (x0 : (List Int)) (x1 : (List Int)) r, slices_Compare F x0 x1 = some r → D 94 [Enc.enc x0, Enc.enc x1] = some (Enc.enc (r : Int))
  g94 : σ 94 = some (0, false)
abbrev R63 (r : Bool) : (Nat → V) → Prop := RR Try.prog [.tmp 2] 0 false (Enc.enc (r : Bool))
section
variable {D : Den} {σ : Sig} {F : Nat} {r : Bool}
def i_IsGraph_j1 (F : Nat) (x_1 : (Int × (List (Int × Int)))) (x_9 : Int) (c1 : Int → Option Bool) (x_19 : Bool) : Option Bool :=
  bif x_19 then
    some false
  else
    c1 (w64 (x_9 + 1))
theorem t_f63_j1 (H : H63 D σ F) (x_1 : (Int × (List (Int × Int)))) (x_9 : Int) (c1 : Int → Option Bool) (Hc1 : ∀ (x_9 : Int) (s : Nat → V), Facts [(1, (.ref (.bx 1) 0 [] (.agg [(ji x_1.1), (Enc.enc (x_1.2 : List (Int × Int)))]))), (2, (jb false)), (10, (Enc.enc (x_1.2 : List (Int × Int)))), (11, (ji (x_1.2.length : Int))), (12, (ji x_9))] s → c1 x_9 = some r → Run D σ (R63 r) (.run A63_1 [.lp A63_1, .bk 0, .sq A63_7]) s) (x_19 : Bool) (s : Nat → V) (hs : Facts [(1, (.ref (.bx 1) 0 [] (.agg [(ji x_1.1), (Enc.enc (x_1.2 : List (Int × Int)))]))), (2, (jb false)), (10, (Enc.enc (x_1.2 : List (Int × Int)))), (11, (ji (x_1.2.length : Int))), (12, (ji x_9)), (48, (jb x_19))] s) (h : i_IsGraph_j1 F x_1 x_9 c1 x_19 = some r) : Run D σ (R63 r) (.nrm [.sq A63_5, .bk 1, .sq A63_6, .lp A63_1, .bk 0, .sq A63_7]) s := by
  unfold i_IsGraph_j1 at h
  obtain ⟨h1, h2, h10, h11, h12, h48⟩ := hs
  refine .nsq (run_cond (t := x_19) h48 h (fun h => ?_) (fun h => ?_))
  · refine .seq (rg (g0 (jb false) fun h2 => ?_))
    refine gq (.nsq (.ret ?_))
    have hr := Option.some.inj h
    subst hr
    exact rrA (res_tmp h2) rfl
  refine .skip (.nbk (.nsq (rg (g1 12 (ji (w64 (x_9 + 1))) h12 fun h49 => ?_))))
  refine gm h49 fun h12 => gq (.nlp ?_)
  exact Hc1 (w64 (x_9 + 1)) _ ⟨h1, h2, h10, h11, h12⟩ h
def i_IsGraph_l1 (F : Nat) (x_1 : (Int × (List (Int × Int))))  : Nat → Int → Option Bool
  | 0, _ => none
  | k + 1, x_9 =>
    bif decide (x_9 < (x_1.2.length : Int)) then
      (idx x_1.2 x_9).bind fun e_16 =>
      bif decide (e_16.1 < 0) then
        i_IsGraph_j1 F x_1 x_9 (i_IsGraph_l1 F x_1 k) true
      else
        bif decide (e_16.1 ≥ e_16.2) then
          i_IsGraph_j1 F x_1 x_9 (i_IsGraph_l1 F x_1 k) true
        else
          bif decide (e_16.2 ≥ x_1.1) then
            i_IsGraph_j1 F x_1 x_9 (i_IsGraph_l1 F x_1 k) true
          else
            bif decide (x_9 > 0) then
              (idx x_1.2 (w64 (x_9 - 1))).bind fun e_20 =>
              (slices_Compare F [e_20.1, e_20.2] [e_16.1, e_16.2]).bind fun r_21 =>
              i_IsGraph_j1 F x_1 x_9 (i_IsGraph_l1 F x_1 k) (decide (r_21 ≥ 0))
            else
              i_IsGraph_j1 F x_1 x_9 (i_IsGraph_l1 F x_1 k) false
    else
      some true
theorem t_f63_l1 (H : H63 D σ F) (x_1 : (Int × (List (Int × Int))))  : ∀ (k : Nat) (x_9 : Int) (s : Nat → V), Facts [(1, (.ref (.bx 1) 0 [] (.agg [(ji x_1.1), (Enc.enc (x_1.2 : List (Int × Int)))]))), (2, (jb false)), (10, (Enc.enc (x_1.2 : List (Int × Int)))), (11, (ji (x_1.2.length : Int))), (12, (ji x_9))] s → i_IsGraph_l1 F x_1 k x_9 = some r → Run D σ (R63 r) (.run A63_1 [.lp A63_1, .bk 0, .sq A63_7]) s := by
  intro k
  induction k with
  | zero => intro x_9 s _ h; exact nomatch (h : (none : Option _) = some r)
  | succ k ih =>
    intro x_9 s hs h
    rw [i_IsGraph_l1] at h
    obtain ⟨h1, h2, h10, h11, h12⟩ := hs
    refine .seq (rg (g2 12 11 (jb (decide (x_9 < (x_1.2.length : Int)))) h12 h11 fun h13 => ?_))
    refine gq (.nsq (.seq (run_cond (t := decide (x_9 < (x_1.2.length : Int))) h13 h (fun h => ?_) (fun h => ?_))))
    · refine .skip (.nsq (.seq (.block (.seq (run_reg ?_)))))
      refine e_clr ?_
      refine ez [(1, _), (2, _), (4, _), (10, _), (11, _), (12, _)] ⟨(keep_clear (pk := [4]) h1 rfl (map_bx rfl (map_agg (maps_cons mi (maps_cons me maps_nil))))), (keep_clear (pk := [4]) h2 rfl mb), (gone_clear (pk := [4]) (t := 4) rfl), (keep_clear (pk := [4]) h10 rfl me), (keep_clear (pk := [4]) h11 rfl mi), (keep_clear (pk := [4]) h12 rfl mi)⟩ ?_
      rintro s ⟨h1, h2, h4, h10, h11, h12⟩
      refine gm h12 fun h14 => ?_
      obtain ⟨e_16, E_e_16, h⟩ := bind_some h
      refine gv (.ref .sh 0 [] (.agg [(ji e_16.1), (ji e_16.2)])) (ev_idx (t := .sh) (lo := 0) (xs := x_1.2) h10 h12 E_e_16 rfl rfl) fun h15 => ?_
      refine g1 15 (.agg [(ji e_16.1), (ji e_16.2)]) h15 fun h16 => ?_
      refine g_alloc h4 ?_
      refine gm h14 fun h3 => g_store (.agg [(ji e_16.1), (ji e_16.2)]) (rd_of rfl rfl) (rd_of h16 rfl) (by refine ⟨by decide, by decide, rfl, rfl, rfl, ?_⟩; first | rfl | (simp [V.toks, V.tokss, Enc.toks_enc]; done) | simp [V.toks, V.tokss, Enc.toks_enc, tok_memP]) ?_
      refine gz [(1, (.ref (.bx 1) 0 [] (.agg [(ji x_1.1), (Enc.enc (x_1.2 : List (Int × Int)))]))), (2, (jb false)), (3, (ji x_9)), (4, (.ref (.bx 4) 0 [] (.agg [(ji e_16.1), (ji e_16.2)]))), (10, (Enc.enc (x_1.2 : List (Int × Int)))), (11, (ji (x_1.2.length : Int))), (12, (ji x_9))] ⟨(keep_mut h1 (mut_ref_ne rfl rfl (mut_agg (muts_cons rfl (muts_cons (Enc.mut_enc _ _ _ _ (x_1.2 : List (Int × Int))) rfl))))), (keep_mut h2 rfl), (keep_mut h3 rfl), (keep_mut rfl rfl), (keep_mut h10 (Enc.mut_enc _ _ _ _ (x_1.2 : List (Int × Int)))), (keep_mut h11 rfl), (keep_mut h12 rfl)⟩ ?_
      rintro s ⟨h1, h2, h3, h4, h10, h11, h12⟩
      refine .nsq (.seq (rg (g1 4 (.ref (.bx 4) 0 [0] (ji e_16.1)) h4 fun h17 => ?_)))
      refine g1 17 (ji e_16.1) h17 fun h18 => ?_
      refine g1 18 (jb (decide (e_16.1 < 0))) h18 fun h19 => ?_
      refine gm h19 fun h20 => split_on (c := decide (e_16.1 < 0)) h (fun hg4 h => ?_) (fun hg4 h => ?_)
      · refine g_no (h20.trans (congrArg V.bool hg4)) ?_
        refine g_no (h20.trans (congrArg V.bool hg4)) ?_
        refine g_no (h20.trans (congrArg V.bool hg4)) ?_
        refine g_no (h20.trans (congrArg V.bool hg4)) ?_
        refine g_no (h20.trans (congrArg V.bool hg4)) ?_
        refine g2 20 25 (jb true) (h20.trans (congrArg V.bool hg4)) (rfl : (_ : V) = (.tup [])) fun h26 => ?_
        refine gm h26 fun h27 => g_no h27 ?_
        refine g_no h27 ?_
        refine g_no h27 ?_
        refine g_no h27 ?_
        refine g_no h27 ?_
        refine g2 27 32 (jb true) h27 (rfl : (_ : V) = (.tup [])) fun h33 => ?_
        refine gm h33 fun h34 => g_no h34 ?_
        refine g_no h34 ?_
        refine g_no h34 ?_
        refine g_skip rfl ?_
        refine g_skip rfl ?_
        refine g_skip rfl ?_
        refine g_skip rfl ?_
        refine g_skip rfl ?_
        refine g_skip rfl ?_
        refine g_skip rfl ?_
        refine g_skip rfl ?_
        refine g_skip rfl ?_
        refine g_no h34 ?_
        refine g2 34 47 (jb true) h34 (rfl : (_ : V) = (.tup [])) fun h48 => ?_
        refine gz [(1, _), (2, _), (10, _), (11, _), (12, _), (48, _)] ⟨h1, h2, h10, h11, h12, h48⟩ ?_
        rintro s ⟨h1, h2, h10, h11, h12, h48⟩
        exact t_f63_j1 H x_1 x_9 (i_IsGraph_l1 F x_1 k) ih true _ ⟨h1, h2, h10, h11, h12, h48⟩ h
      refine g_yes (h20.trans (congrArg V.bool hg4)) (g1 4 (.ref (.bx 4) 0 [0] (ji e_16.1)) h4 fun h21 => ?_)
      refine g_yes (h20.trans (congrArg V.bool hg4)) (g1 21 (ji e_16.1) h21 fun h22 => ?_)
      refine g_yes (h20.trans (congrArg V.bool hg4)) (g1 4 (.ref (.bx 4) 0 [1] (ji e_16.2)) h4 fun h23 => ?_)
      refine g_yes (h20.trans (congrArg V.bool hg4)) (g1 23 (ji e_16.2) h23 fun h24 => ?_)
      refine g_yes (h20.trans (congrArg V.bool hg4)) (g2 22 24 (jb (decide (e_16.1 ≥ e_16.2))) h22 h24 fun h25 => ?_)
      refine g2 20 25 (jb (decide (e_16.1 ≥ e_16.2))) (h20.trans (congrArg V.bool hg4)) h25 fun h26 => ?_
      refine gm h26 fun h27 => split_on (c := decide (e_16.1 ≥ e_16.2)) h (fun hg11 h => ?_) (fun hg11 h => ?_)
      · refine g_no (h27.trans (congrArg V.bool hg11)) ?_
        refine g_no (h27.trans (congrArg V.bool hg11)) ?_
        refine g_no (h27.trans (congrArg V.bool hg11)) ?_
        refine g_no (h27.trans (congrArg V.bool hg11)) ?_
        refine g_no (h27.trans (congrArg V.bool hg11)) ?_
        refine g2 27 32 (jb true) (h27.trans (congrArg V.bool hg11)) (rfl : (_ : V) = (.tup [])) fun h33 => ?_
        refine gm h33 fun h34 => g_no h34 ?_
        refine g_no h34 ?_
        refine g_no h34 ?_
        refine g_skip rfl ?_
        refine g_skip rfl ?_
        refine g_skip rfl ?_
        refine g_skip rfl ?_
        refine g_skip rfl ?_
        refine g_skip rfl ?_
        refine g_skip rfl ?_
        refine g_skip rfl ?_
        refine g_skip rfl ?_
        refine g_no h34 ?_
        refine g2 34 47 (jb true) h34 (rfl : (_ : V) = (.tup [])) fun h48 => ?_
        refine gz [(1, _), (2, _), (10, _), (11, _), (12, _), (48, _)] ⟨h1, h2, h10, h11, h12, h48⟩ ?_
        rintro s ⟨h1, h2, h10, h11, h12, h48⟩
        exact t_f63_j1 H x_1 x_9 (i_IsGraph_l1 F x_1 k) ih true _ ⟨h1, h2, h10, h11, h12, h48⟩ h
      refine g_yes (h27.trans (congrArg V.bool hg11)) (g1 4 (.ref (.bx 4) 0 [1] (ji e_16.2)) h4 fun h28 => ?_)
      refine g_yes (h27.trans (congrArg V.bool hg11)) (g1 28 (ji e_16.2) h28 fun h29 => ?_)
      refine g_yes (h27.trans (congrArg V.bool hg11)) (g1 1 (.ref (.bx 1) 0 [0] (ji x_1.1)) h1 fun h30 => ?_)
      refine g_yes (h27.trans (congrArg V.bool hg11)) (g1 30 (ji x_1.1) h30 fun h31 => ?_)
      refine g_yes (h27.trans (congrArg V.bool hg11)) (g2 29 31 (jb (decide (e_16.2 ≥ x_1.1))) h29 h31 fun h32 => ?_)
      refine g2 27 32 (jb (decide (e_16.2 ≥ x_1.1))) (h27.trans (congrArg V.bool hg11)) h32 fun h33 => ?_
      refine gm h33 fun h34 => split_on (c := decide (e_16.2 ≥ x_1.1)) h (fun hg18 h => ?_) (fun hg18 h => ?_)
      · refine g_no (h34.trans (congrArg V.bool hg18)) ?_
        refine g_no (h34.trans (congrArg V.bool hg18)) ?_
        refine g_no (h34.trans (congrArg V.bool hg18)) ?_
        refine g_skip rfl ?_
        refine g_skip rfl ?_
        refine g_skip rfl ?_
        refine g_skip rfl ?_
        refine g_skip rfl ?_
        refine g_skip rfl ?_
        refine g_skip rfl ?_
        refine g_skip rfl ?_
        refine g_skip rfl ?_
        refine g_no (h34.trans (congrArg V.bool hg18)) ?_
        refine g2 34 47 (jb true) (h34.trans (congrArg V.bool hg18)) (rfl : (_ : V) = (.tup [])) fun h48 => ?_
        refine gz [(1, _), (2, _), (10, _), (11, _), (12, _), (48, _)] ⟨h1, h2, h10, h11, h12, h48⟩ ?_
        rintro s ⟨h1, h2, h10, h11, h12, h48⟩
        exact t_f63_j1 H x_1 x_9 (i_IsGraph_l1 F x_1 k) ih true _ ⟨h1, h2, h10, h11, h12, h48⟩ h
      refine g_yes (h34.trans (congrArg V.bool hg18)) (gm h3 fun h35 => ?_)
      refine g_yes (h34.trans (congrArg V.bool hg18)) (g1 35 (jb (decide (x_9 > 0))) h35 fun h36 => ?_)
      refine g_yes (h34.trans (congrArg V.bool hg18)) (gm h36 fun h37 => ?_)
      refine split_on (c := decide (x_9 > 0)) h (fun hg21 h => ?_) (fun hg21 h => ?_)
      · refine g_yes (h37.trans (congrArg V.bool hg21)) (g1 1 (.ref (.bx 1) 0 [1] (Enc.enc (x_1.2 : List (Int × Int)))) h1 fun h38 => ?_)
        refine g_yes (h37.trans (congrArg V.bool hg21)) (g1 38 (Enc.enc (x_1.2 : List (Int × Int))) h38 fun h39 => ?_)
        refine g_yes (h37.trans (congrArg V.bool hg21)) (gm h3 fun h40 => ?_)
        refine g_yes (h37.trans (congrArg V.bool hg21)) (g1 40 (ji (w64 (x_9 - 1))) h40 fun h41 => ?_)
        obtain ⟨e_20, E_e_20, h⟩ := bind_some h
        refine g_yes (h37.trans (congrArg V.bool hg21)) (gv (.ref .sh 0 [] (.agg [(ji e_20.1), (ji e_20.2)])) (ev_idx (t := .sh) (lo := 0) (xs := x_1.2) h39 h41 E_e_20 rfl rfl) fun h42 => ?_)
        refine g_yes (h37.trans (congrArg V.bool hg21)) (g1 42 (eL [e_20.1, e_20.2]) h42 fun h43 => ?_)
        refine g_yes (h37.trans (congrArg V.bool hg21)) (g1 4 (encO (.bx 4) (.of ([e_16.1, e_16.2] : List Int))) h4 fun h44 => ?_)
        obtain ⟨r_21, E_r_21, h⟩ := bind_some h
        refine g_yes (h37.trans (congrArg V.bool hg21)) (g_call (m := 0) (al := false) (r := (Enc.enc (r_21 : Int))) [Enc.enc ([e_20.1, e_20.2] : (List Int)), Enc.enc ([e_16.1, e_16.2] : (List Int))] (ta_cons (v := (eL [e_20.1, e_20.2])) h43 rfl (Enc.erase_enc ([e_20.1, e_20.2] : (List Int))) (ta_cons (v := (encO (.bx 4) (.of ([e_16.1, e_16.2] : List Int)))) h44 rfl (erase_encO (o := .of [e_16.1, e_16.2])) ta_nil)) (H.c94 _ _ _ E_r_21) H.g94 rfl rfl rfl rfl ?_)
        refine g_yes (h37.trans (congrArg V.bool hg21)) (g1 45 (jb (decide (r_21 ≥ 0))) (rfl : (_ : V) = (ji r_21)) fun h46 => ?_)
        refine g_yes (h34.trans (congrArg V.bool hg18)) (g2 37 46 (jb (decide (r_21 ≥ 0))) (h37.trans (congrArg V.bool hg21)) h46 fun h47 => ?_)
        refine g2 34 47 (jb (decide (r_21 ≥ 0))) (h34.trans (congrArg V.bool hg18)) h47 fun h48 => ?_
        refine gz [(1, _), (2, _), (10, _), (11, _), (12, _), (48, _)] ⟨h1, h2, h10, h11, h12, h48⟩ ?_
        rintro s ⟨h1, h2, h10, h11, h12, h48⟩
        exact t_f63_j1 H x_1 x_9 (i_IsGraph_l1 F x_1 k) ih (decide (r_21 ≥ 0)) _ ⟨h1, h2, h10, h11, h12, h48⟩ h
      refine g_no (h37.trans (congrArg V.bool hg21)) ?_
      refine g_no (h37.trans (congrArg V.bool hg21)) ?_
      refine g_no (h37.trans (congrArg V.bool hg21)) ?_
      refine g_no (h37.trans (congrArg V.bool hg21)) ?_
      refine g_no (h37.trans (congrArg V.bool hg21)) ?_
      refine g_no (h37.trans (congrArg V.bool hg21)) ?_
      refine g_no (h37.trans (congrArg V.bool hg21)) ?_
      refine g_no (h37.trans (congrArg V.bool hg21)) ?_
      refine g_no (h37.trans (congrArg V.bool hg21)) ?_
      refine g_yes (h34.trans (congrArg V.bool hg18)) (g2 37 46 (jb false) (h37.trans (congrArg V.bool hg21)) (rfl : (_ : V) = (.tup [])) fun h47 => ?_)
      refine g2 34 47 (jb false) (h34.trans (congrArg V.bool hg18)) h47 fun h48 => ?_
      refine gz [(1, _), (2, _), (10, _), (11, _), (12, _), (48, _)] ⟨h1, h2, h10, h11, h12, h48⟩ ?_
      rintro s ⟨h1, h2, h10, h11, h12, h48⟩
      exact t_f63_j1 H x_1 x_9 (i_IsGraph_l1 F x_1 k) ih false _ ⟨h1, h2, h10, h11, h12, h48⟩ h
    refine .exit (.esq (.elp (.ebk (.nsq (.seq (rg (g0 (jb true) fun h2 => ?_)))))))
    refine gq (.nsq (.ret ?_))
    have hr := Option.some.inj h
    subst hr
    exact rrA (res_tmp h2) rfl
def i_IsGraph (F : Nat) (x_1 : (Int × (List (Int × Int)))) : Option Bool :=
  (i_within F x_1.1 0 8).bind fun r_2 =>
  bif (!r_2) then
    some false
  else
    i_IsGraph_l1 F x_1 F 0
theorem t63 (H : H63 D σ F) (x_1 : (Int × (List (Int × Int)))) (s : Nat → V) (hs : Facts [(0, (.agg [(ji x_1.1), (Enc.enc (x_1.2 : List (Int × Int)))]))] s) (h : i_IsGraph F x_1 = some r) : Run D σ (R63 r) (.run A63 []) s := by
  unfold i_IsGraph at h
  have h0 := hs
  refine .seq (run_reg ?_)
  refine e_clr ?_
  refine ez [(0, _), (1, _)] ⟨(keep_clear (pk := [1]) h0 rfl (map_agg (maps_cons mi (maps_cons me maps_nil)))), (gone_clear (pk := [1]) (t := 1) rfl)⟩ ?_
  rintro s ⟨h0, h1⟩
  refine g_box (.agg [(ji x_1.1), (Enc.enc (x_1.2 : List (Int × Int)))]) (rd_of h0 rfl) h1 rfl ?_
  refine g0 (jb false) fun h2 => ?_
  refine gq (.nsq (.seq (.seq (rg (g1 1 (.ref (.bx 1) 0 [0] (ji x_1.1)) (rfl : (_ : V) = (.ref (.bx 1) 0 [] (.agg [(ji x_1.1), (Enc.enc (x_1.2 : List (Int × Int)))]))) fun h5 => ?_)))))
  refine g1 5 (ji x_1.1) h5 fun h6 => ?_
  obtain ⟨r_2, E_r_2, h⟩ := bind_some h
  refine g_call (m := 0) (al := false) (r := (Enc.enc (r_2 : Bool))) [Enc.enc (x_1.1 : Int), Enc.enc (0 : Int), Enc.enc (8 : Int)] (ta_cons (v := (ji x_1.1)) h6 rfl rfl (ta_cons (v := (ji 0)) rfl rfl rfl (ta_cons (v := (ji 8)) rfl rfl rfl ta_nil))) (H.c105 _ _ _ _ E_r_2) H.g105 rfl rfl rfl rfl ?_
  refine g1 7 (jb (!r_2)) (rfl : (_ : V) = (jb r_2)) fun h8 => ?_
  refine gq (.nsq (run_cond (t := (!r_2)) h8 h (fun h => ?_) (fun h => ?_)))
  · refine .seq (rg (g0 (jb false) fun h2 => ?_))
    refine gq (.nsq (.ret ?_))
    have hr := Option.some.inj h
    subst hr
    exact rrA (res_tmp h2) rfl
  refine .skip (.nsq (.seq (.seq (rg (g1 1 (.ref (.bx 1) 0 [1] (Enc.enc (x_1.2 : List (Int × Int)))) (rfl : (_ : V) = (.ref (.bx 1) 0 [] (.agg [(ji x_1.1), (Enc.enc (x_1.2 : List (Int × Int)))]))) fun h9 => ?_)))))
  refine g1 9 (Enc.enc (x_1.2 : List (Int × Int))) h9 fun h10 => ?_
  refine gv (ji (x_1.2.length : Int)) (ev_len (xs := x_1.2) h10) fun h11 => ?_
  refine g0 (ji 0) fun h12 => gq (.nsq (.block (.loop ?_)))
  exact t_f63_l1 H x_1 F 0 _ ⟨rfl, h2, h10, h11, h12⟩ h
end
def e63 (F : Nat) : Ent := ent 63 (fun (x : ((Int × (List (Int × Int))) × Unit)) => i_IsGraph F x.1) (fun (r : Bool) => (Enc.enc (r : Bool))) 0 false []
theorem p63 {F : Nat} {x0 : (Int × (List (Int × Int)))} {r : Bool} (h : i_IsGraph F x0 = some r) : (e63 F).den [Enc.enc x0] = some (Enc.enc (r : Bool)) := ent_put (x0, ()) h
theorem o63 {D : Den} {σ : Sig} {F : Nat} (hF : Fits2 Try.prog D σ) (H : H63 D σ F) : (e63 F).Ok Try.prog := by
  refine ok_of (f := 63) (show unk 63 = 63 from rfl) (fun args r h => ?_) ⟨Try.f63, Try.func63, rfl, rfl⟩
  obtain ⟨⟨x0, _⟩, y, rfl, hy, rfl⟩ := da_open h
  exact contract_run hF (by kernel_rfl) Try.func63 rfl c63 (show 1 ≤ Try.f63.ntmps by decide) (t63 H x0 _ rfl hy)
end Go.Zq
