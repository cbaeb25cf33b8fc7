/- Functions of the program as typed functions, and that the machine runs as they say (part 1). No further condition. -/
import Derived.Test.YtdhbhaaiohkpdaaK3
import Derived.Test.YtdhbhaaiohkpdaaProg
import Derived.Test.YtdhbhaaiohkpdaaChecked
import Derived.KernelRfl
set_option linter.unusedVariables false
set_option linter.unusedSimpArgs false
/- Functions of the program, as typed functions, and that the machine runs as they say. -/
namespace Go.Zq
open Go.Proofs
/- loop.example/g01109/laws.szIntA2S -/
def A59_3 : AC := (.cond (.t 10) (.seq (.reg [] [((jv 4 (.mov (jn (-1)))))] []) .ret) .skip)
def A59_4 : AC := (.seq (.reg [] [(jm 11 1), (jm 4 11)] []) .ret)
def A59_2 : AC := (.seq (.seq (.reg [] [(jm 9 1), ((jv 10 (.bin .lss (.t 9) (jn 0))))] []) A59_3) A59_4)
def A59_1 : AC := (.seq (.reg [] [(jm 5 1), (jm 6 0), ((jv 7 (.len (.t 6)))), ((jv 8 (.bin .sub (.t 5) (.t 7)))), (jm 1 8)] []) A59_2)
def A59 : AC := (.seq (.reg [] [((jv 4 (.mov (jn 0))))] []) A59_1)
def an59 : List An := []
theorem c59 : cC Try.prog Try.f59.ntmps an59 (Try.f59.body.getD .skip) = some A59 := by kernel_rfl
structure H59 (D : Den) (σ : Sig) (F : Nat) : Prop where
  mk ::
abbrev R59 (r : Int) : (Nat → V) → Prop := RR Try.prog [.tmp 4] 0 false (Enc.enc (r : Int))
section
variable {D : Den} {σ : Sig} {F : Nat} {r : Int}
def w_szIntA2S (F : Nat) (x_1 : (List (Int × Int))) (x_2 : Int) : Option Int :=
  bif decide ((w64 (x_2 - (x_1.length : Int))) < 0) then
    some (-1)
  else
    some (w64 (x_2 - (x_1.length : Int)))
theorem t59 (H : H59 D σ F) (x_1 : (List (Int × Int))) (x_2 : Int) (s : Nat → V) (hs : Facts [(0, (Enc.enc (x_1 : List (Int × Int)))), (1, (ji x_2))] s) (h : w_szIntA2S F x_1 x_2 = some r) : Run D σ (R59 r) (.run A59 []) s := by
  unfold w_szIntA2S at h
  obtain ⟨h0, h1⟩ := hs
  refine .seq (rg (g0 (ji 0) fun h4 => gq (.nsq (.seq (rg (gm h1 fun h5 => gm h0 fun h6 => gv (ji (x_1.length : Int)) (ev_len (xs := x_1) h6) fun h7 => ?_))))))
  refine g2 5 7 (ji (w64 (x_2 - (x_1.length : Int)))) h5 h7 fun h8 => ?_
  refine gm h8 fun h1 => gq (.nsq (.seq (.seq (rg (gm h1 fun h9 => g1 9 (jb (decide ((w64 (x_2 - (x_1.length : Int))) < 0))) h9 fun h10 => ?_)))))
  refine gq (.nsq (run_cond (t := decide ((w64 (x_2 - (x_1.length : Int))) < 0)) h10 h (fun h => ?_) (fun h => ?_)))
  · refine .seq (rg (g0 (ji (-1)) fun h4 => ?_))
    refine gq (.nsq (.ret ?_))
    have hr := Option.some.inj h
    subst hr
    exact rrA (res_tmp h4) rfl
  refine .skip (.nsq (.seq (rg (gm h1 fun h11 => gm h11 fun h4 => gq (.nsq (.ret ?_))))))
  have hr := Option.some.inj h
  subst hr
  exact rrA (res_tmp h4) rfl
end
def e59 (F : Nat) : Ent := ent 59 (fun (x : ((List (Int × Int)) × Int × Unit)) => w_szIntA2S F x.1 x.2.1) (fun (r : Int) => (Enc.enc (r : Int))) 0 false []
theorem p59 {F : Nat} {x0 : (List (Int × Int))} {x1 : Int} {r : Int} (h : w_szIntA2S F x0 x1 = some r) : (e59 F).den [Enc.enc x0, Enc.enc x1] = some (Enc.enc (r : Int)) := ent_put (x0, x1, ()) h
theorem o59 {D : Den} {σ : Sig} {F : Nat} (hF : Fits2 Try.prog D σ) (H : H59 D σ F) : (e59 F).Ok Try.prog := by
  refine ok_of (f := 59) (show unk 59 = 59 from rfl) (fun args r h => ?_) ⟨Try.f59, Try.func59, rfl, rfl⟩
  obtain ⟨⟨x0, x1, _⟩, y, rfl, hy, rfl⟩ := da_open h
  exact contract_run hF (by kernel_rfl) Try.func59 rfl c59 (show 2 ≤ Try.f59.ntmps by decide) (t59 H x0 x1 _ ⟨rfl, rfl⟩ hy)
/- loop.example/g01109/laws.szGraph -/
def A15_3 : AC := (.cond (.t 10) (.seq (.reg [] [((jv 4 (.mov (jn (-1)))))] []) .ret) .skip)
def A15_4 : AC := (.seq (.reg [] [(jm 11 1), (jm 4 11)] []) .ret)
def A15_2 : AC := (.seq (.seq (.reg [] [(jm 9 1), ((jv 10 (.bin .lss (.t 9) (jn 0))))] []) A15_3) A15_4)
def A15_1 : AC := (.seq (.reg [] [((jv 5 (.fld (.t 2) 1 1))), ((jv 6 (.load .p (.t 5)))), (jm 7 1), (.mk (some 8) none false (.call (.k (.fn 59 [] [])) [(.t 6), (.t 7)])), (jm 1 8)] []) A15_2)
def A15 : AC := (.seq (.reg [.clr [2]] [(.mk (some 2) none false (.box (.t 0))), ((jv 4 (.mov (jn 0))))] []) A15_1)
def an15 : List An := [{ id := 0, pre := [.clr [2]], ep := [], lin := [], sp := [] }]
theorem c15 : cC Try.prog Try.f15.ntmps an15 (Try.f15.body.getD .skip) = some A15 := by kernel_rfl
structure H15 (D : Den) (σ : Sig) (F : Nat) : Prop where
  c59 : ∀ (x0 : (List (Int × Int))) (x1 : Int) r, w_szIntA2S F x0 x1 = some r → D 59 [Enc.enc x0, Enc.enc x1] = some (Enc.enc (r : Int))
  g59 : σ 59 = some (0, false)
abbrev R15 (r : Int) : (Nat → V) → Prop := RR Try.prog [.tmp 4] 0 false (Enc.enc (r : Int))
section
variable {D : Den} {σ : Sig} {F : Nat} {r : Int}
def w_szGraph (F : Nat) (x_1 : (Int × (List (Int × Int)))) (x_2 : Int) : Option Int :=
  (w_szIntA2S F x_1.2 x_2).bind fun r_3 =>
  bif decide (r_3 < 0) then
    some (-1)
  else
    some r_3
theorem t15 (H : H15 D σ F) (x_1 : (Int × (List (Int × Int)))) (x_2 : Int) (s : Nat → V) (hs : Facts [(0, (.agg [(ji x_1.1), (Enc.enc (x_1.2 : List (Int × Int)))])), (1, (ji x_2))] s) (h : w_szGraph F x_1 x_2 = some r) : Run D σ (R15 r) (.run A15 []) s := by
  unfold w_szGraph at h
  obtain ⟨h0, h1⟩ := hs
  refine .seq (run_reg ?_)
  refine e_clr ?_
  refine ez [(0, _), (1, _), (2, _)] ⟨(keep_clear (pk := [2]) h0 rfl (map_agg (maps_cons mi (maps_cons me maps_nil)))), (keep_clear (pk := [2]) h1 rfl mi), (gone_clear (pk := [2]) (t := 2) rfl)⟩ ?_
  rintro s ⟨h0, h1, h2⟩
  refine g_box (.agg [(ji x_1.1), (Enc.enc (x_1.2 : List (Int × Int)))]) (rd_of h0 rfl) h2 rfl ?_
  refine g0 (ji 0) fun h4 => gq (.nsq (.seq (rg (g1 2 (.ref (.bx 2) 0 [1] (Enc.enc (x_1.2 : List (Int × Int)))) (rfl : (_ : V) = (.ref (.bx 2) 0 [] (.agg [(ji x_1.1), (Enc.enc (x_1.2 : List (Int × Int)))]))) fun h5 => ?_))))
  refine g1 5 (Enc.enc (x_1.2 : List (Int × Int))) h5 fun h6 => ?_
  refine gm h1 fun h7 => ?_
  obtain ⟨r_3, E_r_3, h⟩ := bind_some h
  refine g_call (m := 0) (al := false) (r := (Enc.enc (r_3 : Int))) [Enc.enc (x_1.2 : (List (Int × Int))), Enc.enc (x_2 : Int)] (ta_cons (v := (Enc.enc (x_1.2 : List (Int × Int)))) h6 rfl (Enc.erase_enc (x_1.2 : (List (Int × Int)))) (ta_cons (v := (ji x_2)) h7 rfl rfl ta_nil)) (H.c59 _ _ _ E_r_3) H.g59 rfl rfl rfl rfl ?_
  refine gm (rfl : (_ : V) = (ji r_3)) fun h1 => ?_
  refine gq (.nsq (.seq (.seq (rg (gm h1 fun h9 => g1 9 (jb (decide (r_3 < 0))) h9 fun h10 => ?_)))))
  refine gq (.nsq (run_cond (t := decide (r_3 < 0)) h10 h (fun h => ?_) (fun h => ?_)))
  · refine .seq (rg (g0 (ji (-1)) fun h4 => ?_))
    refine gq (.nsq (.ret ?_))
    have hr := Option.some.inj h
    subst hr
    exact rrA (res_tmp h4) rfl
  refine .skip (.nsq (.seq (rg (gm h1 fun h11 => gm h11 fun h4 => gq (.nsq (.ret ?_))))))
  have hr := Option.some.inj h
  subst hr
  exact rrA (res_tmp h4) rfl
end
def e15 (F : Nat) : Ent := ent 15 (fun (x : ((Int × (List (Int × Int))) × Int × Unit)) => w_szGraph F x.1 x.2.1) (fun (r : Int) => (Enc.enc (r : Int))) 0 false []
theorem p15 {F : Nat} {x0 : (Int × (List (Int × Int)))} {x1 : Int} {r : Int} (h : w_szGraph F x0 x1 = some r) : (e15 F).den [Enc.enc x0, Enc.enc x1] = some (Enc.enc (r : Int)) := ent_put (x0, x1, ()) h
theorem o15 {D : Den} {σ : Sig} {F : Nat} (hF : Fits2 Try.prog D σ) (H : H15 D σ F) : (e15 F).Ok Try.prog := by
  refine ok_of (f := 15) (show unk 15 = 15 from rfl) (fun args r h => ?_) ⟨Try.f15, Try.func15, rfl, rfl⟩
  obtain ⟨⟨x0, x1, _⟩, y, rfl, hy, rfl⟩ := da_open h
  exact contract_run hF (by kernel_rfl) Try.func15 rfl c15 (show 2 ≤ Try.f15.ntmps by decide) (t15 H x0 x1 _ ⟨rfl, rfl⟩ hy)
/- loop.example/g01109/laws.toIntA2 -/
def A123_2 : AC := (.cond (.t 6) .skip (.exit 0))
def A123_4 : AC := (.reg [] [(jm 7 4), ((jv 8 (.bin .add (.t 7) (jn 1)))), (jm 4 8)] [])
def A123_3 : AC := (.seq (.block 1 (.reg [] [(jm 9 4), (jm 10 4), ((jv 11 (.idxA (.t 1) (.t 10) 2 1))), ((jv 12 (.load .s (.t 11)))), ((jv 13 (.idxA (.t 3) (.t 9) 2 1))), (.mk none none false (.store .s (.t 13) (.t 12)))] [])) A123_4)
def A123_1 : AC := (.seq (.seq (.reg [] [(jm 5 4), ((jv 6 (.bin .lss (.t 5) (jn 2))))] []) A123_2) A123_3)
def A123_5 : AC := (.seq (.reg [] [((jv 14 (.load (.ag [.s, .s]) (.t 3)))), (.mk none none false (.store (.ag [.s, .s]) (.t 2) (.t 14)))] []) .ret)
def A123_8 : AC := (.block 0 (.loop A123_1))
def A123_7 : AC := (.seq (.seq (.reg [] [((jv 4 (.mov (jn 0))))] []) A123_8) A123_5)
def A123_6 : AC := (.seq (.reg [.clr [3]] [(.mk (some 3) none false (.alloc (.agg [(.int .i64 (.ofNat 0)), (.int .i64 (.ofNat 0))])))] []) A123_7)
def A123 : AC := (.seq (.reg [.clr [1, 2]] [(.mk (some 1) none false (.box (.t 0))), (.mk (some 2) none false (.alloc (.agg [(.int .i64 (.ofNat 0)), (.int .i64 (.ofNat 0))])))] []) A123_6)
def an123 : List An := [{ id := 0, pre := [.clr [1, 2]], ep := [], lin := [], sp := [] }, { id := 1, pre := [.clr [3]], ep := [], lin := [], sp := [] }]
theorem c123 : cC Try.prog Try.f123.ntmps an123 (Try.f123.body.getD .skip) = some A123 := by kernel_rfl
structure H123 (D : Den) (σ : Sig) (F : Nat) : Prop where
  mk ::
abbrev R123 (r : (Int × Int)) : (Nat → V) → Prop := RR Try.prog [.cell 2 103] 0 false (Enc.enc (r : (Int × Int)))
section
variable {D : Den} {σ : Sig} {F : Nat} {r : (Int × Int)}
def w_toIntA2_l1 (F : Nat) (x_1 : (Int × Int))  : Nat → Int → Int → Int → Option (Int × Int)
  | 0, _, _, _ => none
  | k + 1, x_2, x_3, x_6 =>
    bif decide (x_3 < 2) then
      (idx [x_1.1, x_1.2] x_3).bind fun e_9 =>
      (idx [x_2, x_6] x_3).bind fun e_10 =>
      (w_toIntA2_l1 F x_1 k) (bif x_3 == 0 then e_9 else x_2) (w64 (x_3 + 1)) (bif x_3 == 1 then e_9 else x_6)
    else
      some (x_2, x_6)
theorem t_f123_l1 (H : H123 D σ F) (x_1 : (Int × Int))  : ∀ (k : Nat) (x_2 : Int) (x_3 : Int) (x_6 : Int) (s : Nat → V), Facts [(1, (.ref (.bx 1) 0 [] (.agg [(ji x_1.1), (ji x_1.2)]))), (2, (.ref (.bx 2) 0 [] (.agg [(ji 0), (ji 0)]))), (3, (.ref (.bx 3) 0 [] (.agg [(ji x_2), (ji x_6)]))), (4, (ji x_3))] s → w_toIntA2_l1 F x_1 k x_2 x_3 x_6 = some r → Run D σ (R123 r) (.run A123_1 [.lp A123_1, .bk 0, .sq A123_5]) s := by
  intro k
  induction k with
  | zero => intro x_2 x_3 x_6 s _ h; exact nomatch (h : (none : Option _) = some r)
  | succ k ih =>
    intro x_2 x_3 x_6 s hs h
    rw [w_toIntA2_l1] at h
    obtain ⟨h1, h2, h3, h4⟩ := hs
    refine .seq (.seq (rg (gm h4 fun h5 => g1 5 (jb (decide (x_3 < 2))) h5 fun h6 => ?_)))
    refine gq (.nsq (run_cond (t := decide (x_3 < 2)) h6 h (fun h => ?_) (fun h => ?_)))
    · refine .skip (.nsq (.seq (.block (rg (gm h4 fun h9 => gm h4 fun h10 => ?_)))))
      obtain ⟨e_9, E_e_9, h⟩ := bind_some h
      refine gv (.ref (.bx 1) 0 [x_3.toNat] (ji e_9)) (ev_idxA (xs := [x_1.1, x_1.2]) (a := e_9) (n := x_3) (q := []) h1 h10 E_e_9 rfl rfl rfl) fun h11 => ?_
      refine g1 11 (ji e_9) h11 fun h12 => ?_
      obtain ⟨e_10, E_e_10, h⟩ := bind_some h
      refine gv (.ref (.bx 3) 0 [x_3.toNat] (ji e_10)) (ev_idxA (xs := [x_2, x_6]) (a := e_10) (n := x_3) (q := []) h3 h9 E_e_10 rfl rfl rfl) fun h13 => ?_
      refine g_store (ji e_9) (rd_of h13 rfl) (rd_of h12 rfl) (by refine ⟨by decide, by decide, rfl, rfl, rfl, ?_⟩; first | rfl | simp [V.toks, V.tokss, Enc.toks_enc]) ?_
      refine gz [(1, (.ref (.bx 1) 0 [] (.agg [(ji x_1.1), (ji x_1.2)]))), (2, (.ref (.bx 2) 0 [] (.agg [(ji 0), (ji 0)]))), (3, (.ref (.bx 3) 0 [] (.agg [(ji (bif x_3 == 0 then e_9 else x_2)), (ji (bif x_3 == 1 then e_9 else x_6))]))), (4, (ji x_3))] ⟨(keep_mut h1 rfl), (keep_mut h2 rfl), (keep_mut h3 (mut_ix2 E_e_10 rfl)), (keep_mut h4 rfl)⟩ ?_
      rintro s ⟨h1, h2, h3, h4⟩
      refine .nbk (.nsq (rg (gm h4 fun h7 => g1 7 (ji (w64 (x_3 + 1))) h7 fun h8 => ?_)))
      refine gm h8 fun h4 => gq (.nlp ?_)
      exact ih (bif x_3 == 0 then e_9 else x_2) (w64 (x_3 + 1)) (bif x_3 == 1 then e_9 else x_6) _ ⟨h1, h2, h3, h4⟩ h
    refine .exit (.esq (.elp (.ebk (.nsq (.seq (rg (g1 3 (.agg [(ji x_2), (ji x_6)]) h3 fun h14 => ?_)))))))
    refine g_store (.agg [(ji x_2), (ji x_6)]) (rd_of h2 rfl) (rd_of h14 rfl) (by refine ⟨by decide, by decide, rfl, rfl, rfl, ?_⟩; first | rfl | simp [V.toks, V.tokss, Enc.toks_enc]) ?_
    refine gz [(2, (.ref (.bx 2) 0 [] (.agg [(ji x_2), (ji x_6)])))] (keep_mut h2 rfl) ?_
    rintro s h2
    refine .nsq (.ret ?_)
    have hr := Option.some.inj h
    subst hr
    exact rrA (res_cell h2 (by kernel_rfl)) rfl
def w_toIntA2 (F : Nat) (x_1 : (Int × Int)) : Option (Int × Int) :=
  w_toIntA2_l1 F x_1 F 0 0 0
theorem t123 (H : H123 D σ F) (x_1 : (Int × Int)) (s : Nat → V) (hs : Facts [(0, (.agg [(ji x_1.1), (ji x_1.2)]))] s) (h : w_toIntA2 F x_1 = some r) : Run D σ (R123 r) (.run A123 []) s := by
  unfold w_toIntA2 at h
  have h0 := hs
  refine .seq (run_reg ?_)
  refine e_clr ?_
  refine ez [(0, _), (1, _), (2, _)] ⟨(keep_clear (pk := [1, 2]) h0 rfl (map_agg (maps_cons mi (maps_cons mi maps_nil)))), (gone_clear (pk := [1, 2]) (t := 1) rfl), (gone_clear (pk := [1, 2]) (t := 2) rfl)⟩ ?_
  rintro s ⟨h0, h1, h2⟩
  refine g_box (.agg [(ji x_1.1), (ji x_1.2)]) (rd_of h0 rfl) h1 rfl ?_
  refine g_alloc h2 ?_
  refine gq (.nsq (.seq (run_reg ?_)))
  refine e_clr ?_
  refine ez [(1, _), (2, _), (3, _)] ⟨(keep_clear (pk := [3]) rfl rfl (map_bx rfl (map_agg (maps_cons mi (maps_cons mi maps_nil))))), (keep_clear (pk := [3]) rfl rfl (map_bx rfl (map_agg (maps_cons mi (maps_cons mi maps_nil))))), (gone_clear (pk := [3]) (t := 3) rfl)⟩ ?_
  rintro s ⟨h1, h2, h3⟩
  refine g_alloc h3 ?_
  refine gq (.nsq (.seq (.seq (rg (g0 (ji 0) fun h4 => gq (.nsq (.block (.loop ?_))))))))
  exact t_f123_l1 H x_1 F 0 0 0 _ ⟨h1, h2, rfl, h4⟩ h
end
def e123 (F : Nat) : Ent := ent 123 (fun (x : ((Int × Int) × Unit)) => w_toIntA2 F x.1) (fun (r : (Int × Int)) => (Enc.enc (r : (Int × Int)))) 0 false []
theorem p123 {F : Nat} {x0 : (Int × Int)} {r : (Int × Int)} (h : w_toIntA2 F x0 = some r) : (e123 F).den [Enc.enc x0] = some (Enc.enc (r : (Int × Int))) := ent_put (x0, ()) h
theorem o123 {D : Den} {σ : Sig} {F : Nat} (hF : Fits2 Try.prog D σ) (H : H123 D σ F) : (e123 F).Ok Try.prog := by
  refine ok_of (f := 123) (show unk 123 = 123 from rfl) (fun args r h => ?_) ⟨Try.f123, Try.func123, rfl, rfl⟩
  obtain ⟨⟨x0, _⟩, y, rfl, hy, rfl⟩ := da_open h
  exact contract_run hF (by kernel_rfl) Try.func123 rfl c123 (show 1 ≤ Try.f123.ntmps by decide) (t123 H x0 _ rfl hy)
/- loop.example/g01109/laws.toIntA2S -/
def A62_2 : AC := (.cond (.t 11) .skip (.exit 0))
def A62_4 : AC := (.reg [] [(jm 12 4), ((jv 13 (.bin .add (.t 12) (jn 1)))), (jm 4 13)] [])
def A62_3 : AC := (.seq (.block 1 (.reg [] [(jm 14 3), (jm 15 4), (jm 16 0), (jm 17 4), ((jv 18 (.idx (.t 16) (.t 17) 2))), ((jv 19 (.load (.ag [.s, .s]) (.t 18)))), (.mk (some 20) none false (.call (.k (.fn 123 [] [])) [(.t 19)])), ((jv 21 (.idx (.t 14) (.t 15) 2))), (.mk none none false (.store (.ag [.s, .s]) (.t 21) (.t 20)))] [])) A62_4)
def A62_1 : AC := (.seq (.seq (.reg [] [(jm 8 4), (jm 9 0), ((jv 10 (.len (.t 9)))), ((jv 11 (.bin .lss (.t 8) (.t 10))))] []) A62_2) A62_3)
def A62_5 : AC := (.seq (.reg [] [(jm 22 3), (jm 2 22)] [.home 3 2]) .ret)
def A62_8 : AC := (.block 0 (.loop A62_1))
def A62_7 : AC := (.seq (.seq (.reg [] [((jv 4 (.mov (jn 0))))] []) A62_8) A62_5)
def A62_6 : AC := (.seq (.reg [.clr [7]] [(jm 5 0), ((jv 6 (.len (.t 5)))), (.mk (some 7) none false (.mk (.t 6) (.agg [(.int .i64 (.ofNat 0)), (.int .i64 (.ofNat 0))]) (.agg [(.int .i64 (.ofNat 0)), (.int .i64 (.ofNat 0))]))), (jm 3 7)] [.home 7 3]) A62_7)
def A62 : AC := (.seq (.reg [] [((jv 2 (.mov (.k (.sl .nl (.ag [.s, .s]) 0 [])))))] []) A62_6)
def an62 : List An := [{ id := 1, pre := [.clr [7]], ep := [.home 7 3], lin := [], sp := [] }, { id := 6, pre := [], ep := [.home 3 2], lin := [], sp := [] }]
theorem c62 : cC Try.prog Try.f62.ntmps an62 (Try.f62.body.getD .skip) = some A62 := by kernel_rfl
structure H62 (D : Den) (σ : Sig) (F : Nat) : Prop where
  c123 : ∀ (x0 : (Int × Int)) r, w_toIntA2 F x0 = some r → D 123 [Enc.enc x0] = some (Enc.enc (r : (Int × Int)))
  g123 : σ 123 = some (0, false)
abbrev R62 (r : (List (Int × Int))) : (Nat → V) → Prop := RR Try.prog [.tmp 2] 0 false (Enc.enc (r : (List (Int × Int))))
section
variable {D : Den} {σ : Sig} {F : Nat} {r : (List (Int × Int))}
def w_toIntA2S_l1 (F : Nat) (x_1 : (List (Int × Int)))  : Nat → (List (Int × Int)) → Int → Option (List (Int × Int))
  | 0, _, _ => none
  | k + 1, x_6, x_7 =>
    bif decide (x_7 < (x_1.length : Int)) then
      (idx x_1 x_7).bind fun e_11 =>
      (w_toIntA2 F e_11).bind fun r_12 =>
      (idx x_6 x_7).bind fun e_13 =>
      (w_toIntA2S_l1 F x_1 k) (x_6.set x_7.toNat r_12) (w64 (x_7 + 1))
    else
      some x_6
theorem t_f62_l1 (H : H62 D σ F) (x_1 : (List (Int × Int)))  : ∀ (k : Nat) (x_6 : (List (Int × Int))) (x_7 : Int) (s : Nat → V), Facts [(0, (Enc.enc (x_1 : List (Int × Int)))), (2, (.sl .nl (Enc.shp (Int × Int)) 0 [])), (3, (encO (.at 3 []) (.of (x_6 : List (Int × Int))))), (4, (ji x_7))] s → w_toIntA2S_l1 F x_1 k x_6 x_7 = some r → Run D σ (R62 r) (.run A62_1 [.lp A62_1, .bk 0, .sq A62_5]) s := by
  intro k
  induction k with
  | zero => intro x_6 x_7 s _ h; exact nomatch (h : (none : Option _) = some r)
  | succ k ih =>
    intro x_6 x_7 s hs h
    rw [w_toIntA2S_l1] at h
    obtain ⟨h0, h2, h3, h4⟩ := hs
    refine .seq (.seq (rg (gm h4 fun h8 => gm h0 fun h9 => gv (ji (x_1.length : Int)) (ev_len (xs := x_1) h9) fun h10 => ?_)))
    refine g2 8 10 (jb (decide (x_7 < (x_1.length : Int)))) h8 h10 fun h11 => ?_
    refine gq (.nsq (run_cond (t := decide (x_7 < (x_1.length : Int))) h11 h (fun h => ?_) (fun h => ?_)))
    · refine .skip (.nsq (.seq (.block (rg (gm h3 fun h14 => gm h4 fun h15 => gm h0 fun h16 => gm h4 fun h17 => ?_)))))
      obtain ⟨e_11, E_e_11, h⟩ := bind_some h
      refine gv (.ref .sh 0 [] (.agg [(ji e_11.1), (ji e_11.2)])) (ev_idx (t := .sh) (lo := 0) (xs := x_1) h16 h17 E_e_11 rfl rfl) fun h18 => ?_
      refine g1 18 (.agg [(ji e_11.1), (ji e_11.2)]) h18 fun h19 => ?_
      obtain ⟨r_12, E_r_12, h⟩ := bind_some h
      refine g_call (m := 0) (al := false) (r := (Enc.enc (r_12 : (Int × Int)))) [Enc.enc (e_11 : (Int × Int))] (ta_cons (v := (.agg [(ji e_11.1), (ji e_11.2)])) h19 rfl (Enc.erase_enc (e_11 : (Int × Int))) ta_nil) (H.c123 _ _ E_r_12) H.g123 rfl rfl rfl rfl ?_
      obtain ⟨e_13, E_e_13, h⟩ := bind_some h
      refine gv (.ref (.at 3 []) x_7.toNat [] (.agg [(ji e_13.1), (ji e_13.2)])) (ev_idxO (o := (.of x_6)) h14 h15 E_e_13 rfl) fun h21 => ?_
      refine g_store (.agg [(ji r_12.1), (ji r_12.2)]) (rd_of h21 rfl) (rd_of rfl rfl) (by refine ⟨by decide, by decide, rfl, rfl, rfl, ?_⟩; first | rfl | simp [V.toks, V.tokss, Enc.toks_enc]) ?_
      refine gz [(0, (Enc.enc (x_1 : List (Int × Int)))), (2, (.sl .nl (Enc.shp (Int × Int)) 0 [])), (3, _), (4, (ji x_7))] ⟨(keep_mut h0 (Enc.mut_enc _ _ _ _ (x_1 : List (Int × Int)))), (keep_mut h2 rfl), (keep_mut h3 mut_own), (keep_mut h4 rfl)⟩ ?_
      rintro s ⟨h0, h2, h3, h4⟩
      refine .nbk (.nsq (rg (gm h4 fun h12 => g1 12 (ji (w64 (x_7 + 1))) h12 fun h13 => ?_)))
      refine gm h13 fun h4 => gq (.nlp ?_)
      exact ih (x_6.set x_7.toNat r_12) (w64 (x_7 + 1)) _ ⟨h0, h2, h3, h4⟩ h
    refine .exit (.esq (.elp (.ebk (.nsq (.seq (rg (gm h3 fun h22 => gm h22 fun h2 => g_end ?_)))))))
    refine e_home (r := 3) (x := 2) (v := _) h2 rfl (fun s_3 hg_3 => ?_)
    refine ez [(2, (encO (.at 2 []) (.of (x_6 : List (Int × Int)))))] (hg_3 2 _ _ h2 (map_encO (r := 3) (p := []) rfl rfl)) ?_
    rintro s h2
    refine .nsq (.ret ?_)
    have hr := Option.some.inj h
    subst hr
    exact rrA (res_tmp h2) (fin_retF (fin_own (o := .of x_6)) (mine_own rfl))
def w_toIntA2S (F : Nat) (x_1 : (List (Int × Int))) : Option (List (Int × Int)) :=
  (mkN (x_1.length : Int) (0, 0)).bind fun mk_2 =>
  w_toIntA2S_l1 F x_1 F mk_2 0
theorem t62 (H : H62 D σ F) (x_1 : (List (Int × Int))) (s : Nat → V) (hs : Facts [(0, (Enc.enc (x_1 : List (Int × Int))))] s) (h : w_toIntA2S F x_1 = some r) : Run D σ (R62 r) (.run A62 []) s := by
  unfold w_toIntA2S at h
  have h0 := hs
  refine .seq (rg (g0 (.sl .nl (Enc.shp (Int × Int)) 0 []) fun h2 => ?_))
  refine gq (.nsq (.seq (run_reg ?_)))
  refine e_clr ?_
  refine ez [(0, _), (2, _), (7, _)] ⟨(keep_clear (pk := [7]) h0 rfl me), (keep_clear (pk := [7]) h2 rfl rfl), (gone_clear (pk := [7]) (t := 7) rfl)⟩ ?_
  rintro s ⟨h0, h2, h7⟩
  refine gm h0 fun h5 => gv (ji (x_1.length : Int)) (ev_len (xs := x_1) h5) fun h6 => ?_
  obtain ⟨mk_2, E_mk_2, h⟩ := bind_some h
  refine g_mk ((0, 0) : (Int × Int)) h6 rfl h7 E_mk_2 ?_
  refine gm (rfl : (_ : V) = (encO (.at 7 []) (.of (mk_2 : List (Int × Int))))) fun h3 => ?_
  refine g_end ?_
  refine e_home (r := 7) (x := 3) (v := _) h3 rfl (fun s_2 hg_2 => ?_)
  refine ez [(0, (Enc.enc (x_1 : List (Int × Int)))), (2, (.sl .nl (Enc.shp (Int × Int)) 0 [])), (3, (encO (.at 3 []) (.of (mk_2 : List (Int × Int)))))] ⟨(hg_2 0 _ _ h0 me), (hg_2 2 _ (.sl .nl (Enc.shp (Int × Int)) 0 []) h2 rfl), (hg_2 3 _ _ h3 (map_encO (r := 7) (p := []) rfl rfl))⟩ ?_
  rintro s ⟨h0, h2, h3⟩
  refine .nsq (.seq (.seq (rg (g0 (ji 0) fun h4 => gq (.nsq (.block (.loop ?_)))))))
  exact t_f62_l1 H x_1 F mk_2 0 _ ⟨h0, h2, h3, h4⟩ h
end
def e62 (F : Nat) : Ent := ent 62 (fun (x : ((List (Int × Int)) × Unit)) => w_toIntA2S F x.1) (fun (r : (List (Int × Int))) => (Enc.enc (r : (List (Int × Int))))) 0 false []
theorem p62 {F : Nat} {x0 : (List (Int × Int))} {r : (List (Int × Int))} (h : w_toIntA2S F x0 = some r) : (e62 F).den [Enc.enc x0] = some (Enc.enc (r : (List (Int × Int)))) := ent_put (x0, ()) h
theorem o62 {D : Den} {σ : Sig} {F : Nat} (hF : Fits2 Try.prog D σ) (H : H62 D σ F) : (e62 F).Ok Try.prog := by
  refine ok_of (f := 62) (show unk 62 = 62 from rfl) (fun args r h => ?_) ⟨Try.f62, Try.func62, rfl, rfl⟩
  obtain ⟨⟨x0, _⟩, y, rfl, hy, rfl⟩ := da_open h
  exact contract_run hF (by kernel_rfl) Try.func62 rfl c62 (show 1 ≤ Try.f62.ntmps by decide) (t62 H x0 _ rfl hy)
/- loop.example/g01109/laws.toGraph -/
def A17_4 : AC := (.seq (.reg [] [((jv 11 (.load (.ag [.s, .p]) (.t 3)))), (.mk none none false (.store (.ag [.s, .p]) (.t 2) (.t 11)))] []) .ret)
def A17_3 : AC := (.seq (.reg [] [((jv 7 (.fld (.t 1) 1 1))), ((jv 8 (.load .p (.t 7)))), (.mk (some 9) none false (.call (.k (.fn 62 [] [])) [(.t 8)])), ((jv 10 (.fld (.t 3) 1 1))), (.mk none none false (.store .p (.t 10) (.t 9)))] []) A17_4)
def A17_2 : AC := (.seq (.reg [] [((jv 4 (.fld (.t 1) 0 0))), ((jv 5 (.load .s (.t 4)))), ((jv 6 (.fld (.t 3) 0 0))), (.mk none none false (.store .s (.t 6) (.t 5)))] []) A17_3)
def A17_1 : AC := (.seq (.reg [.clr [3]] [(.mk (some 3) none false (.alloc (.agg [(.int .i64 (.ofNat 0)), (.sl .nl (.ag [.s, .s]) 0 [])])))] []) A17_2)
def A17 : AC := (.seq (.reg [.clr [1, 2]] [(.mk (some 1) none false (.box (.t 0))), (.mk (some 2) none false (.alloc (.agg [(.int .i64 (.ofNat 0)), (.sl .nl (.ag [.s, .s]) 0 [])])))] []) A17_1)
def an17 : List An := [{ id := 0, pre := [.clr [1, 2]], ep := [], lin := [], sp := [] }, { id := 1, pre := [.clr [3]], ep := [], lin := [], sp := [] }]
theorem c17 : cC Try.prog Try.f17.ntmps an17 (Try.f17.body.getD .skip) = some A17 := by kernel_rfl
structure H17 (D : Den) (σ : Sig) (F : Nat) : Prop where
  c62 : ∀ (x0 : (List (Int × Int))) r, w_toIntA2S F x0 = some r → D 62 [Enc.enc x0] = some (Enc.enc (r : (List (Int × Int))))
  g62 : σ 62 = some (0, false)
abbrev R17 (r : (Int × (List (Int × Int)))) : (Nat → V) → Prop := RR Try.prog [.cell 2 27] 0 true (Enc.enc (r : (Int × (List (Int × Int)))))
section
variable {D : Den} {σ : Sig} {F : Nat} {r : (Int × (List (Int × Int)))}
def w_toGraph (F : Nat) (x_1 : (Int × (List (Int × Int)))) : Option (Int × (List (Int × Int))) :=
  (w_toIntA2S F x_1.2).bind fun r_2 =>
  some (x_1.1, r_2)
theorem t17 (H : H17 D σ F) (x_1 : (Int × (List (Int × Int)))) (s : Nat → V) (hs : Facts [(0, (.agg [(ji x_1.1), (Enc.enc (x_1.2 : List (Int × Int)))]))] s) (h : w_toGraph F x_1 = some r) : Run D σ (R17 r) (.run A17 []) s := by
  unfold w_toGraph at h
  have h0 := hs
  refine .seq (run_reg ?_)
  refine e_clr ?_
  refine ez [(0, _), (1, _), (2, _)] ⟨(keep_clear (pk := [1, 2]) h0 rfl (map_agg (maps_cons mi (maps_cons me maps_nil)))), (gone_clear (pk := [1, 2]) (t := 1) rfl), (gone_clear (pk := [1, 2]) (t := 2) rfl)⟩ ?_
  rintro s ⟨h0, h1, h2⟩
  refine g_box (.agg [(ji x_1.1), (Enc.enc (x_1.2 : List (Int × Int)))]) (rd_of h0 rfl) h1 rfl ?_
  refine g_alloc h2 ?_
  refine gq (.nsq (.seq (run_reg ?_)))
  refine e_clr ?_
  refine ez [(1, _), (2, _), (3, _)] ⟨(keep_clear (pk := [3]) rfl rfl (map_bx rfl (map_agg (maps_cons mi (maps_cons me maps_nil))))), (keep_clear (pk := [3]) rfl rfl (map_bx rfl (map_agg (maps_cons mi (maps_cons rfl maps_nil))))), (gone_clear (pk := [3]) (t := 3) rfl)⟩ ?_
  rintro s ⟨h1, h2, h3⟩
  refine g_alloc h3 ?_
  refine gq (.nsq (.seq (rg (g1 1 (.ref (.bx 1) 0 [0] (ji x_1.1)) h1 fun h4 => ?_))))
  refine g1 4 (ji x_1.1) h4 fun h5 => ?_
  refine g1 3 (.ref (.bx 3) 0 [0] (ji 0)) (rfl : (_ : V) = (.ref (.bx 3) 0 [] (.agg [(ji 0), (.sl .nl (Enc.shp (Int × Int)) 0 [])]))) fun h6 => ?_
  refine g_store (ji x_1.1) (rd_of h6 rfl) (rd_of h5 rfl) (by refine ⟨by decide, by decide, rfl, rfl, rfl, ?_⟩; first | rfl | simp [V.toks, V.tokss, Enc.toks_enc]) ?_
  refine gz [(1, (.ref (.bx 1) 0 [] (.agg [(ji x_1.1), (Enc.enc (x_1.2 : List (Int × Int)))]))), (2, (.ref (.bx 2) 0 [] (.agg [(ji 0), (.sl .nl (Enc.shp (Int × Int)) 0 [])]))), (3, (.ref (.bx 3) 0 [] (.agg [(ji x_1.1), (.sl .nl (Enc.shp (Int × Int)) 0 [])])))] ⟨(keep_mut h1 (mut_ref_ne rfl rfl (mut_agg (muts_cons rfl (muts_cons (Enc.mut_enc _ _ _ _ (x_1.2 : List (Int × Int))) rfl))))), (keep_mut h2 (mut_ref_ne rfl rfl (mut_agg (muts_cons rfl (muts_cons rfl rfl))))), (keep_mut rfl rfl)⟩ ?_
  rintro s ⟨h1, h2, h3⟩
  refine .nsq (.seq (rg (g1 1 (.ref (.bx 1) 0 [1] (Enc.enc (x_1.2 : List (Int × Int)))) h1 fun h7 => ?_)))
  refine g1 7 (Enc.enc (x_1.2 : List (Int × Int))) h7 fun h8 => ?_
  obtain ⟨r_2, E_r_2, h⟩ := bind_some h
  refine g_call (m := 0) (al := false) (r := (Enc.enc (r_2 : (List (Int × Int))))) [Enc.enc (x_1.2 : (List (Int × Int)))] (ta_cons (v := (Enc.enc (x_1.2 : List (Int × Int)))) h8 rfl (Enc.erase_enc (x_1.2 : (List (Int × Int)))) ta_nil) (H.c62 _ _ E_r_2) H.g62 rfl rfl rfl rfl ?_
  refine g1 3 (.ref (.bx 3) 0 [1] (.sl .nl (Enc.shp (Int × Int)) 0 [])) h3 fun h10 => ?_
  refine g_store (Enc.enc (r_2 : List (Int × Int))) (rd_of h10 rfl) (rd_of rfl rfl) (by refine ⟨by decide, by decide, rfl, rfl, rfl, ?_⟩; first | rfl | simp [V.toks, V.tokss, Enc.toks_enc]) ?_
  refine gz [(2, (.ref (.bx 2) 0 [] (.agg [(ji 0), (.sl .nl (Enc.shp (Int × Int)) 0 [])]))), (3, (.ref (.bx 3) 0 [] (.agg [(ji x_1.1), (Enc.enc (r_2 : List (Int × Int)))])))] ⟨(keep_mut h2 (mut_ref_ne rfl rfl (mut_agg (muts_cons rfl (muts_cons rfl rfl))))), (keep_mut h3 rfl)⟩ ?_
  rintro s ⟨h2, h3⟩
  refine .nsq (.seq (rg (g1 3 (.agg [(ji x_1.1), (Enc.enc (r_2 : List (Int × Int)))]) h3 fun h11 => ?_)))
  refine g_store (.agg [(ji x_1.1), (Enc.enc (r_2 : List (Int × Int)))]) (rd_of h2 rfl) (rd_of h11 rfl) (by refine ⟨by decide, by decide, rfl, rfl, rfl, ?_⟩; first | rfl | simp [V.toks, V.tokss, Enc.toks_enc]) ?_
  refine gz [(2, (.ref (.bx 2) 0 [] (.agg [(ji x_1.1), (Enc.enc (r_2 : List (Int × Int)))])))] (keep_mut h2 rfl) ?_
  rintro s h2
  refine .nsq (.ret ?_)
  have hr := Option.some.inj h
  subst hr
  exact rrA (res_cell h2 (by kernel_rfl)) (fin_ret1 (fin_enc (x := ((x_1.1, r_2) : (Int × (List (Int × Int)))))))
end
def e17 (F : Nat) : Ent := ent 17 (fun (x : ((Int × (List (Int × Int))) × Unit)) => w_toGraph F x.1) (fun (r : (Int × (List (Int × Int)))) => (Enc.enc (r : (Int × (List (Int × Int)))))) 0 true []
theorem p17 {F : Nat} {x0 : (Int × (List (Int × Int)))} {r : (Int × (List (Int × Int)))} (h : w_toGraph F x0 = some r) : (e17 F).den [Enc.enc x0] = some (Enc.enc (r : (Int × (List (Int × Int))))) := ent_put (x0, ()) h
theorem o17 {D : Den} {σ : Sig} {F : Nat} (hF : Fits2 Try.prog D σ) (H : H17 D σ F) : (e17 F).Ok Try.prog := by
  refine ok_of (f := 17) (show unk 17 = 17 from rfl) (fun args r h => ?_) ⟨Try.f17, Try.func17, rfl, rfl⟩
  obtain ⟨⟨x0, _⟩, y, rfl, hy, rfl⟩ := da_open h
  exact contract_run hF (by kernel_rfl) Try.func17 rfl c17 (show 1 ≤ Try.f17.ntmps by decide) (t17 H x0 _ rfl hy)
/- loop.example/g01109/laws.toIntS -/
def A18_2 : AC := (.cond (.t 11) .skip (.exit 0))
def A18_4 : AC := (.reg [] [(jm 12 4), ((jv 13 (.bin .add (.t 12) (jn 1)))), (jm 4 13)] [])
def A18_3 : AC := (.seq (.block 1 (.reg [] [(jm 14 3), (jm 15 4), (jm 16 0), (jm 17 4), ((jv 18 (.idx (.t 16) (.t 17) 1))), ((jv 19 (.load .s (.t 18)))), ((jv 20 (.idx (.t 14) (.t 15) 1))), (.mk none none false (.store .s (.t 20) (.t 19)))] [])) A18_4)
def A18_1 : AC := (.seq (.seq (.reg [] [(jm 8 4), (jm 9 0), ((jv 10 (.len (.t 9)))), ((jv 11 (.bin .lss (.t 8) (.t 10))))] []) A18_2) A18_3)
def A18_5 : AC := (.seq (.reg [] [(jm 21 3), (jm 2 21)] [.home 3 2]) .ret)
def A18_8 : AC := (.block 0 (.loop A18_1))
def A18_7 : AC := (.seq (.seq (.reg [] [((jv 4 (.mov (jn 0))))] []) A18_8) A18_5)
def A18_6 : AC := (.seq (.reg [.clr [7]] [(jm 5 0), ((jv 6 (.len (.t 5)))), (.mk (some 7) none false (.mk (.t 6) (.int .i64 (.ofNat 0)) (.int .i64 (.ofNat 0)))), (jm 3 7)] [.home 7 3]) A18_7)
def A18 : AC := (.seq (.reg [] [((jv 2 (.mov (.k (.sl .nl .s 0 [])))))] []) A18_6)
def an18 : List An := [{ id := 1, pre := [.clr [7]], ep := [.home 7 3], lin := [], sp := [] }, { id := 6, pre := [], ep := [.home 3 2], lin := [], sp := [] }]
theorem c18 : cC Try.prog Try.f18.ntmps an18 (Try.f18.body.getD .skip) = some A18 := by kernel_rfl
structure H18 (D : Den) (σ : Sig) (F : Nat) : Prop where
  mk ::
abbrev R18 (r : (List Int)) : (Nat → V) → Prop := RR Try.prog [.tmp 2] 0 false (Enc.enc (r : (List Int)))
section
variable {D : Den} {σ : Sig} {F : Nat} {r : (List Int)}
def w_toIntS_l1 (F : Nat) (x_1 : (List Int))  : Nat → (List Int) → Int → Option (List Int)
  | 0, _, _ => none
  | k + 1, x_5, x_6 =>
    bif decide (x_6 < (x_1.length : Int)) then
      (idx x_1 x_6).bind fun e_9 =>
      (idx x_5 x_6).bind fun e_10 =>
      (w_toIntS_l1 F x_1 k) (x_5.set x_6.toNat e_9) (w64 (x_6 + 1))
    else
      some x_5
theorem t_f18_l1 (H : H18 D σ F) (x_1 : (List Int))  : ∀ (k : Nat) (x_5 : (List Int)) (x_6 : Int) (s : Nat → V), Facts [(0, (eL x_1)), (2, (.sl .nl (Enc.shp Int) 0 [])), (3, (oI 3 [] (.of x_5))), (4, (ji x_6))] s → w_toIntS_l1 F x_1 k x_5 x_6 = some r → Run D σ (R18 r) (.run A18_1 [.lp A18_1, .bk 0, .sq A18_5]) s := by
  intro k
  induction k with
  | zero => intro x_5 x_6 s _ h; exact nomatch (h : (none : Option _) = some r)
  | succ k ih =>
    intro x_5 x_6 s hs h
    rw [w_toIntS_l1] at h
    obtain ⟨h0, h2, h3, h4⟩ := hs
    refine .seq (.seq (rg (gm h4 fun h8 => gm h0 fun h9 => gv (ji (x_1.length : Int)) (ev_len (xs := x_1) h9) fun h10 => ?_)))
    refine g2 8 10 (jb (decide (x_6 < (x_1.length : Int)))) h8 h10 fun h11 => ?_
    refine gq (.nsq (run_cond (t := decide (x_6 < (x_1.length : Int))) h11 h (fun h => ?_) (fun h => ?_)))
    · refine .skip (.nsq (.seq (.block (rg (gm h3 fun h14 => gm h4 fun h15 => gm h0 fun h16 => gm h4 fun h17 => ?_)))))
      obtain ⟨e_9, E_e_9, h⟩ := bind_some h
      refine gv (.ref .sh 0 [] (ji e_9)) (ev_idx (t := .sh) (lo := 0) (xs := x_1) h16 h17 E_e_9 rfl rfl) fun h18 => ?_
      refine g1 18 (ji e_9) h18 fun h19 => ?_
      obtain ⟨e_10, E_e_10, h⟩ := bind_some h
      refine gv (.ref (.at 3 []) x_6.toNat [] (ji e_10)) (ev_idxO (o := (.of x_5)) h14 h15 E_e_10 rfl) fun h20 => ?_
      refine g_store (ji e_9) (rd_of h20 rfl) (rd_of h19 rfl) (by refine ⟨by decide, by decide, rfl, rfl, rfl, ?_⟩; first | rfl | simp [V.toks, V.tokss, Enc.toks_enc]) ?_
      refine gz [(0, (eL x_1)), (2, (.sl .nl (Enc.shp Int) 0 [])), (3, _), (4, (ji x_6))] ⟨(keep_mut h0 (Enc.mut_enc _ _ _ _ (x_1 : List Int))), (keep_mut h2 rfl), (keep_mut h3 mut_own), (keep_mut h4 rfl)⟩ ?_
      rintro s ⟨h0, h2, h3, h4⟩
      refine .nbk (.nsq (rg (gm h4 fun h12 => g1 12 (ji (w64 (x_6 + 1))) h12 fun h13 => ?_)))
      refine gm h13 fun h4 => gq (.nlp ?_)
      exact ih (x_5.set x_6.toNat e_9) (w64 (x_6 + 1)) _ ⟨h0, h2, h3, h4⟩ h
    refine .exit (.esq (.elp (.ebk (.nsq (.seq (rg (gm h3 fun h21 => gm h21 fun h2 => g_end ?_)))))))
    refine e_home (r := 3) (x := 2) (v := _) h2 rfl (fun s_3 hg_3 => ?_)
    refine ez [(2, (oI 2 [] (.of x_5)))] (hg_3 2 _ _ h2 (map_encO (r := 3) (p := []) rfl rfl)) ?_
    rintro s h2
    refine .nsq (.ret ?_)
    have hr := Option.some.inj h
    subst hr
    exact rrA (res_tmp h2) (fin_retF (fin_own (o := .of x_5)) (mine_own rfl))
def w_toIntS (F : Nat) (x_1 : (List Int)) : Option (List Int) :=
  (mkN (x_1.length : Int) (0 : Int)).bind fun mk_2 =>
  w_toIntS_l1 F x_1 F mk_2 0
theorem t18 (H : H18 D σ F) (x_1 : (List Int)) (s : Nat → V) (hs : Facts [(0, (eL x_1))] s) (h : w_toIntS F x_1 = some r) : Run D σ (R18 r) (.run A18 []) s := by
  unfold w_toIntS at h
  have h0 := hs
  refine .seq (rg (g0 (.sl .nl (Enc.shp Int) 0 []) fun h2 => ?_))
  refine gq (.nsq (.seq (run_reg ?_)))
  refine e_clr ?_
  refine ez [(0, _), (2, _), (7, _)] ⟨(keep_clear (pk := [7]) h0 rfl me), (keep_clear (pk := [7]) h2 rfl rfl), (gone_clear (pk := [7]) (t := 7) rfl)⟩ ?_
  rintro s ⟨h0, h2, h7⟩
  refine gm h0 fun h5 => gv (ji (x_1.length : Int)) (ev_len (xs := x_1) h5) fun h6 => ?_
  obtain ⟨mk_2, E_mk_2, h⟩ := bind_some h
  refine g_mk (0 : Int) h6 rfl h7 E_mk_2 ?_
  refine gm (rfl : (_ : V) = (oI 7 [] (.of mk_2))) fun h3 => ?_
  refine g_end ?_
  refine e_home (r := 7) (x := 3) (v := _) h3 rfl (fun s_2 hg_2 => ?_)
  refine ez [(0, (eL x_1)), (2, (.sl .nl (Enc.shp Int) 0 [])), (3, (oI 3 [] (.of mk_2)))] ⟨(hg_2 0 _ _ h0 me), (hg_2 2 _ (.sl .nl (Enc.shp Int) 0 []) h2 rfl), (hg_2 3 _ _ h3 (map_encO (r := 7) (p := []) rfl rfl))⟩ ?_
  rintro s ⟨h0, h2, h3⟩
  refine .nsq (.seq (.seq (rg (g0 (ji 0) fun h4 => gq (.nsq (.block (.loop ?_)))))))
  exact t_f18_l1 H x_1 F mk_2 0 _ ⟨h0, h2, h3, h4⟩ h
end
def e18 (F : Nat) : Ent := ent 18 (fun (x : ((List Int) × Unit)) => w_toIntS F x.1) (fun (r : (List Int)) => (Enc.enc (r : (List Int)))) 0 false []
theorem p18 {F : Nat} {x0 : (List Int)} {r : (List Int)} (h : w_toIntS F x0 = some r) : (e18 F).den [Enc.enc x0] = some (Enc.enc (r : (List Int))) := ent_put (x0, ()) h
theorem o18 {D : Den} {σ : Sig} {F : Nat} (hF : Fits2 Try.prog D σ) (H : H18 D σ F) : (e18 F).Ok Try.prog := by
  refine ok_of (f := 18) (show unk 18 = 18 from rfl) (fun args r h => ?_) ⟨Try.f18, Try.func18, rfl, rfl⟩
  obtain ⟨⟨x0, _⟩, y, rfl, hy, rfl⟩ := da_open h
  exact contract_run hF (by kernel_rfl) Try.func18 rfl c18 (show 1 ≤ Try.f18.ntmps by decide) (t18 H x0 _ rfl hy)
/- loop.example/g01109/spec.l1In -/
def A103_1 : AC := (.seq (.reg [] [(jm 7 0), (jm 8 1), ((jv 9 (.bin .geq (.t 7) (.t 8)))), (jm 10 9), ((jg 11 10 true (.mov (.t 0)))), ((jg 12 10 true (.mov (.t 2)))), ((jg 13 10 true (.bin .leq (.t 11) (.t 12)))), ((jv 14 (.pick (.t 10) (.t 13) (.k (.bool false))))), (jm 6 14)] []) .ret)
def A103 : AC := (.seq (.reg [] [((jv 6 (.mov (.k (.bool false)))))] []) A103_1)
def an103 : List An := []
theorem c103 : cC Try.prog Try.f103.ntmps an103 (Try.f103.body.getD .skip) = some A103 := by kernel_rfl
structure H103 (D : Den) (σ : Sig) (F : Nat) : Prop where
  mk ::
abbrev R103 (r : Bool) : (Nat → V) → Prop := RR Try.prog [.tmp 6] 0 false (Enc.enc (r : Bool))
section
variable {D : Den} {σ : Sig} {F : Nat} {r : Bool}
def s_l1In (F : Nat) (x_1 : Int) (x_2 : Int) (x_3 : Int) : Option Bool :=
  bif decide (x_1 ≥ x_2) then
    some (decide (x_1 ≤ x_3))
  else
    some false
theorem t103 (H : H103 D σ F) (x_1 : Int) (x_2 : Int) (x_3 : Int) (s : Nat → V) (hs : Facts [(0, (ji x_1)), (1, (ji x_2)), (2, (ji x_3))] s) (h : s_l1In F x_1 x_2 x_3 = some r) : Run D σ (R103 r) (.run A103 []) s := by
  unfold s_l1In at h
  obtain ⟨h0, h1, h2⟩ := hs
  refine .seq (rg (g0 (jb false) fun h6 => ?_))
  refine gq (.nsq (.seq (rg (gm h0 fun h7 => gm h1 fun h8 => g2 7 8 (jb (decide (x_1 ≥ x_2))) h7 h8 fun h9 => ?_))))
  refine gm h9 fun h10 => split_on (c := decide (x_1 ≥ x_2)) h (fun hg4 h => ?_) (fun hg4 h => ?_)
  · refine g_yes (h10.trans (congrArg V.bool hg4)) (gm h0 fun h11 => ?_)
    refine g_yes (h10.trans (congrArg V.bool hg4)) (gm h2 fun h12 => ?_)
    refine g_yes (h10.trans (congrArg V.bool hg4)) (g2 11 12 (jb (decide (x_1 ≤ x_3))) h11 h12 fun h13 => ?_)
    refine g2 10 13 (jb (decide (x_1 ≤ x_3))) (h10.trans (congrArg V.bool hg4)) h13 fun h14 => ?_
    refine gm h14 fun h6 => gq (.nsq (.ret ?_))
    have hr := Option.some.inj h
    subst hr
    exact rrA (res_tmp h6) rfl
  refine g_no (h10.trans (congrArg V.bool hg4)) ?_
  refine g_no (h10.trans (congrArg V.bool hg4)) ?_
  refine g_no (h10.trans (congrArg V.bool hg4)) ?_
  refine g2 10 13 (jb false) (h10.trans (congrArg V.bool hg4)) (rfl : (_ : V) = (.tup [])) fun h14 => ?_
  refine gm h14 fun h6 => gq (.nsq (.ret ?_))
  have hr := Option.some.inj h
  subst hr
  exact rrA (res_tmp h6) rfl
end
def e103 (F : Nat) : Ent := ent 103 (fun (x : (Int × Int × Int × Unit)) => s_l1In F x.1 x.2.1 x.2.2.1) (fun (r : Bool) => (Enc.enc (r : Bool))) 0 false []
theorem p103 {F : Nat} {x0 : Int} {x1 : Int} {x2 : Int} {r : Bool} (h : s_l1In F x0 x1 x2 = some r) : (e103 F).den [Enc.enc x0, Enc.enc x1, Enc.enc x2] = some (Enc.enc (r : Bool)) := ent_put (x0, x1, x2, ()) h
theorem o103 {D : Den} {σ : Sig} {F : Nat} (hF : Fits2 Try.prog D σ) (H : H103 D σ F) : (e103 F).Ok Try.prog := by
  refine ok_of (f := 103) (show unk 103 = 103 from rfl) (fun args r h => ?_) ⟨Try.f103, Try.func103, rfl, rfl⟩
  obtain ⟨⟨x0, x1, x2, _⟩, y, rfl, hy, rfl⟩ := da_open h
  exact contract_run hF (by kernel_rfl) Try.func103 rfl c103 (show 3 ≤ Try.f103.ntmps by decide) (t103 H x0 x1 x2 _ ⟨rfl, rfl, rfl⟩ hy)
/- loop.example/g01109/spec.l2Before -/
def A130_1 : AC := (.seq (.reg [] [((jv 5 (.idxA (.t 2) (jn 0) 2 1))), ((jv 6 (.load .s (.t 5)))), ((jv 7 (.idxA (.t 3) (jn 0) 2 1))), ((jv 8 (.load .s (.t 7)))), ((jv 9 (.bin .lss (.t 6) (.t 8)))), (jm 10 9), ((jg 11 10 false (.idxA (.t 2) (jn 0) 2 1))), ((jg 12 10 false (.load .s (.t 11)))), ((jg 13 10 false (.idxA (.t 3) (jn 0) 2 1))), ((jg 14 10 false (.load .s (.t 13)))), ((jg 15 10 false (.bin .eql (.t 12) (.t 14)))), ((jg 16 10 false (.mov (.t 15)))), ((jg 17 16 true (.idxA (.t 2) (jn 1) 2 1))), ((jg 18 16 true (.load .s (.t 17)))), ((jg 19 16 true (.idxA (.t 3) (jn 1) 2 1))), ((jg 20 16 true (.load .s (.t 19)))), ((jg 21 16 true (.bin .lss (.t 18) (.t 20)))), ((jg 22 10 false (.pick (.t 16) (.t 21) (.k (.bool false))))), ((jv 23 (.pick (.t 10) (.k (.bool true)) (.t 22)))), (jm 4 23)] []) .ret)
def A130 : AC := (.seq (.reg [.clr [2, 3]] [(.mk (some 2) none false (.box (.t 0))), (.mk (some 3) none false (.box (.t 1))), ((jv 4 (.mov (.k (.bool false)))))] []) A130_1)
def an130 : List An := [{ id := 0, pre := [.clr [2, 3]], ep := [], lin := [], sp := [] }]
theorem c130 : cC Try.prog Try.f130.ntmps an130 (Try.f130.body.getD .skip) = some A130 := by kernel_rfl
structure H130 (D : Den) (σ : Sig) (F : Nat) : Prop where
  mk ::
abbrev R130 (r : Bool) : (Nat → V) → Prop := RR Try.prog [.tmp 4] 0 false (Enc.enc (r : Bool))
section
variable {D : Den} {σ : Sig} {F : Nat} {r : Bool}
def s_l2Before (F : Nat) (x_1 : (Int × Int)) (x_2 : (Int × Int)) : Option Bool :=
  bif decide (x_1.1 < x_2.1) then
    some true
  else
    bif (x_1.1 == x_2.1) then
      some (decide (x_1.2 < x_2.2))
    else
      some false
theorem t130 (H : H130 D σ F) (x_1 : (Int × Int)) (x_2 : (Int × Int)) (s : Nat → V) (hs : Facts [(0, (.agg [(ji x_1.1), (ji x_1.2)])), (1, (.agg [(ji x_2.1), (ji x_2.2)]))] s) (h : s_l2Before F x_1 x_2 = some r) : Run D σ (R130 r) (.run A130 []) s := by
  unfold s_l2Before at h
  obtain ⟨h0, h1⟩ := hs
  refine .seq (run_reg ?_)
  refine e_clr ?_
  refine ez [(0, _), (1, _), (2, _), (3, _)] ⟨(keep_clear (pk := [2, 3]) h0 rfl (map_agg (maps_cons mi (maps_cons mi maps_nil)))), (keep_clear (pk := [2, 3]) h1 rfl (map_agg (maps_cons mi (maps_cons mi maps_nil)))), (gone_clear (pk := [2, 3]) (t := 2) rfl), (gone_clear (pk := [2, 3]) (t := 3) rfl)⟩ ?_
  rintro s ⟨h0, h1, h2, h3⟩
  refine g_box (.agg [(ji x_1.1), (ji x_1.2)]) (rd_of h0 rfl) h2 rfl ?_
  refine g_box (.agg [(ji x_2.1), (ji x_2.2)]) (rd_of h1 rfl) h3 rfl ?_
  refine g0 (jb false) fun h4 => ?_
  refine gq (.nsq (.seq (rg (g1 2 (.ref (.bx 2) 0 [0] (ji x_1.1)) (rfl : (_ : V) = (.ref (.bx 2) 0 [] (.agg [(ji x_1.1), (ji x_1.2)]))) fun h5 => ?_))))
  refine g1 5 (ji x_1.1) h5 fun h6 => ?_
  refine g1 3 (.ref (.bx 3) 0 [0] (ji x_2.1)) (rfl : (_ : V) = (.ref (.bx 3) 0 [] (.agg [(ji x_2.1), (ji x_2.2)]))) fun h7 => ?_
  refine g1 7 (ji x_2.1) h7 fun h8 => ?_
  refine g2 6 8 (jb (decide (x_1.1 < x_2.1))) h6 h8 fun h9 => ?_
  refine gm h9 fun h10 => split_on (c := decide (x_1.1 < x_2.1)) h (fun hg6 h => ?_) (fun hg6 h => ?_)
  · refine g_no (h10.trans (congrArg V.bool hg6)) ?_
    refine g_no (h10.trans (congrArg V.bool hg6)) ?_
    refine g_no (h10.trans (congrArg V.bool hg6)) ?_
    refine g_no (h10.trans (congrArg V.bool hg6)) ?_
    refine g_no (h10.trans (congrArg V.bool hg6)) ?_
    refine g_no (h10.trans (congrArg V.bool hg6)) ?_
    refine g_skip rfl ?_
    refine g_skip rfl ?_
    refine g_skip rfl ?_
    refine g_skip rfl ?_
    refine g_skip rfl ?_
    refine g_no (h10.trans (congrArg V.bool hg6)) ?_
    refine g2 10 22 (jb true) (h10.trans (congrArg V.bool hg6)) (rfl : (_ : V) = (.tup [])) fun h23 => ?_
    refine gm h23 fun h4 => gq (.nsq (.ret ?_))
    have hr := Option.some.inj h
    subst hr
    exact rrA (res_tmp h4) rfl
  refine g_yes (h10.trans (congrArg V.bool hg6)) (g1 2 (.ref (.bx 2) 0 [0] (ji x_1.1)) (rfl : (_ : V) = (.ref (.bx 2) 0 [] (.agg [(ji x_1.1), (ji x_1.2)]))) fun h11 => ?_)
  refine g_yes (h10.trans (congrArg V.bool hg6)) (g1 11 (ji x_1.1) h11 fun h12 => ?_)
  refine g_yes (h10.trans (congrArg V.bool hg6)) (g1 3 (.ref (.bx 3) 0 [0] (ji x_2.1)) (rfl : (_ : V) = (.ref (.bx 3) 0 [] (.agg [(ji x_2.1), (ji x_2.2)]))) fun h13 => ?_)
  refine g_yes (h10.trans (congrArg V.bool hg6)) (g1 13 (ji x_2.1) h13 fun h14 => ?_)
  refine g_yes (h10.trans (congrArg V.bool hg6)) (g2 12 14 (jb (x_1.1 == x_2.1)) h12 h14 fun h15 => ?_)
  refine g_yes (h10.trans (congrArg V.bool hg6)) (gm h15 fun h16 => ?_)
  refine split_on (c := (x_1.1 == x_2.1)) h (fun hg12 h => ?_) (fun hg12 h => ?_)
  · refine g_yes (h16.trans (congrArg V.bool hg12)) (g1 2 (.ref (.bx 2) 0 [1] (ji x_1.2)) (rfl : (_ : V) = (.ref (.bx 2) 0 [] (.agg [(ji x_1.1), (ji x_1.2)]))) fun h17 => ?_)
    refine g_yes (h16.trans (congrArg V.bool hg12)) (g1 17 (ji x_1.2) h17 fun h18 => ?_)
    refine g_yes (h16.trans (congrArg V.bool hg12)) (g1 3 (.ref (.bx 3) 0 [1] (ji x_2.2)) (rfl : (_ : V) = (.ref (.bx 3) 0 [] (.agg [(ji x_2.1), (ji x_2.2)]))) fun h19 => ?_)
    refine g_yes (h16.trans (congrArg V.bool hg12)) (g1 19 (ji x_2.2) h19 fun h20 => ?_)
    refine g_yes (h16.trans (congrArg V.bool hg12)) (g2 18 20 (jb (decide (x_1.2 < x_2.2))) h18 h20 fun h21 => ?_)
    refine g_yes (h10.trans (congrArg V.bool hg6)) (g2 16 21 (jb (decide (x_1.2 < x_2.2))) (h16.trans (congrArg V.bool hg12)) h21 fun h22 => ?_)
    refine g2 10 22 (jb (decide (x_1.2 < x_2.2))) (h10.trans (congrArg V.bool hg6)) h22 fun h23 => ?_
    refine gm h23 fun h4 => gq (.nsq (.ret ?_))
    have hr := Option.some.inj h
    subst hr
    exact rrA (res_tmp h4) rfl
  refine g_no (h16.trans (congrArg V.bool hg12)) ?_
  refine g_no (h16.trans (congrArg V.bool hg12)) ?_
  refine g_no (h16.trans (congrArg V.bool hg12)) ?_
  refine g_no (h16.trans (congrArg V.bool hg12)) ?_
  refine g_no (h16.trans (congrArg V.bool hg12)) ?_
  refine g_yes (h10.trans (congrArg V.bool hg6)) (g2 16 21 (jb false) (h16.trans (congrArg V.bool hg12)) (rfl : (_ : V) = (.tup [])) fun h22 => ?_)
  refine g2 10 22 (jb false) (h10.trans (congrArg V.bool hg6)) h22 fun h23 => ?_
  refine gm h23 fun h4 => gq (.nsq (.ret ?_))
  have hr := Option.some.inj h
  subst hr
  exact rrA (res_tmp h4) rfl
end
def e130 (F : Nat) : Ent := ent 130 (fun (x : ((Int × Int) × (Int × Int) × Unit)) => s_l2Before F x.1 x.2.1) (fun (r : Bool) => (Enc.enc (r : Bool))) 0 false []
theorem p130 {F : Nat} {x0 : (Int × Int)} {x1 : (Int × Int)} {r : Bool} (h : s_l2Before F x0 x1 = some r) : (e130 F).den [Enc.enc x0, Enc.enc x1] = some (Enc.enc (r : Bool)) := ent_put (x0, x1, ()) h
theorem o130 {D : Den} {σ : Sig} {F : Nat} (hF : Fits2 Try.prog D σ) (H : H130 D σ F) : (e130 F).Ok Try.prog := by
  refine ok_of (f := 130) (show unk 130 = 130 from rfl) (fun args r h => ?_) ⟨Try.f130, Try.func130, rfl, rfl⟩
  obtain ⟨⟨x0, x1, _⟩, y, rfl, hy, rfl⟩ := da_open h
  exact contract_run hF (by kernel_rfl) Try.func130 rfl c130 (show 2 ≤ Try.f130.ntmps by decide) (t130 H x0 x1 _ ⟨rfl, rfl⟩ hy)
/- loop.example/g01109/spec.l2Good -/
def A72_2 : AC := (.cond (.t 9) .skip (.exit 0))
def A72_5 : AC := (.cond (.t 54) (.seq (.reg [] [((jv 2 (.mov (.k (.bool false)))))] []) .ret) .skip)
def A72_4 : AC := (.seq (.reg [] [((jv 17 (.idxA (.t 4) (jn 0) 2 1))), ((jv 18 (.load .s (.t 17)))), ((jv 19 (.fld (.t 1) 0 0))), ((jv 20 (.load .s (.t 19)))), ((jv 21 (.bin .sub (.t 20) (jn 1)))), (.mk (some 22) none false (.call (.k (.fn 103 [] [])) [(.t 18), (jn 0), (.t 21)])), ((jv 23 (.un .not (.t 22)))), (jm 24 23), ((jg 25 24 false (.idxA (.t 4) (jn 1) 2 1))), ((jg 26 24 false (.load .s (.t 25)))), ((jg 27 24 false (.fld (.t 1) 0 0))), ((jg 28 24 false (.load .s (.t 27)))), ((jg 29 24 false (.bin .sub (.t 28) (jn 1)))), (.mk (some 30) (some (24, false)) false (.call (.k (.fn 103 [] [])) [(.t 26), (jn 0), (.t 29)])), ((jg 31 24 false (.un .not (.t 30)))), ((jv 32 (.pick (.t 24) (.k (.bool true)) (.t 31)))), (jm 33 32), ((jg 34 33 false (.idxA (.t 4) (jn 0) 2 1))), ((jg 35 33 false (.load .s (.t 34)))), ((jg 36 33 false (.idxA (.t 4) (jn 1) 2 1))), ((jg 37 33 false (.load .s (.t 36)))), ((jg 38 33 false (.bin .geq (.t 35) (.t 37)))), ((jv 39 (.pick (.t 33) (.k (.bool true)) (.t 38)))), (jm 40 39), ((jg 41 40 false (.mov (.t 3)))), ((jg 42 40 false (.bin .gtr (.t 41) (jn 0)))), ((jg 43 40 false (.mov (.t 42)))), ((jg 44 43 true (.fld (.t 1) 1 1))), ((jg 45 43 true (.load .p (.t 44)))), ((jg 46 43 true (.mov (.t 3)))), ((jg 47 43 true (.bin .sub (.t 46) (jn 1)))), ((jg 48 43 true (.idx (.t 45) (.t 47) 2))), ((jg 49 43 true (.load (.ag [.s, .s]) (.t 48)))), ((jg 50 43 true (.load (.ag [.s, .s]) (.t 4)))), (.mk (some 51) (some (43, true)) false (.call (.k (.fn 130 [] [])) [(.t 49), (.t 50)])), ((jg 52 43 true (.un .not (.t 51)))), ((jg 53 40 false (.pick (.t 43) (.t 52) (.k (.bool false))))), ((jv 54 (.pick (.t 40) (.k (.bool true)) (.t 53))))] []) A72_5)
def A72_6 : AC := (.reg [] [(jm 10 3), ((jv 11 (.bin .add (.t 10) (jn 1)))), (jm 3 11)] [])
def A72_3 : AC := (.seq (.block 1 (.seq (.reg [.clr [4]] [((jv 12 (.fld (.t 1) 1 1))), ((jv 13 (.load .p (.t 12)))), (jm 14 3), ((jv 15 (.idx (.t 13) (.t 14) 2))), ((jv 16 (.load (.ag [.s, .s]) (.t 15)))), (.mk (some 4) none false (.alloc (.agg [(.int .i64 (.ofNat 0)), (.int .i64 (.ofNat 0))]))), (.mk none none false (.store (.ag [.s, .s]) (.t 4) (.t 16)))] []) A72_4)) A72_6)
def A72_1 : AC := (.seq (.seq (.reg [] [(jm 5 3), ((jv 6 (.fld (.t 1) 1 1))), ((jv 7 (.load .p (.t 6)))), ((jv 8 (.len (.t 7)))), ((jv 9 (.bin .lss (.t 5) (.t 8))))] []) A72_2) A72_3)
def A72_7 : AC := (.seq (.reg [] [((jv 55 (.fld (.t 1) 0 0))), ((jv 56 (.load .s (.t 55)))), (.mk (some 57) none false (.call (.k (.fn 103 [] [])) [(.t 56), (jn 0), (jn 8)])), (jm 2 57)] []) .ret)
def A72_9 : AC := (.block 0 (.loop A72_1))
def A72_8 : AC := (.seq (.seq (.reg [] [((jv 3 (.mov (jn 0))))] []) A72_9) A72_7)
def A72 : AC := (.seq (.reg [.clr [1]] [(.mk (some 1) none false (.box (.t 0))), ((jv 2 (.mov (.k (.bool false)))))] []) A72_8)
def an72 : List An := [{ id := 0, pre := [.clr [1]], ep := [], lin := [], sp := [] }, { id := 4, pre := [.clr [4]], ep := [], lin := [], sp := [] }]
theorem c72 : cC Try.prog Try.f72.ntmps an72 (Try.f72.body.getD .skip) = some A72 := by kernel_rfl
structure H72 (D : Den) (σ : Sig) (F : Nat) : Prop where
  c103 : ∀ (x0 : Int) (x1 : Int) (x2 : Int) r, s_l1In F x0 x1 x2 = some r → D 103 [Enc.enc x0, Enc.enc x1, Enc.enc x2] = some (Enc.enc (r : Bool))
  g103 : σ 103 = some (0, false)
  c130 : ∀ (x0 : (Int × Int)) (x1 : (Int × Int)) r, s_l2Before F x0 x1 = some r → D 130 [Enc.enc x0, Enc.enc x1] = some (Enc.enc (r : Bool))
  g130 : σ 130 = some (0, false)
abbrev R72 (r : Bool) : (Nat → V) → Prop := RR Try.prog [.tmp 2] 0 false (Enc.enc (r : Bool))
section
variable {D : Den} {σ : Sig} {F : Nat} {r : Bool}
def s_l2Good_j1 (F : Nat) (x_1 : (Int × (List (Int × Int)))) (x_12 : Int) (c1 : Int → Option Bool) (x_28 : Bool) : Option Bool :=
  bif x_28 then
    some false
  else
    c1 (w64 (x_12 + 1))
theorem t_f72_j1 (H : H72 D σ F) (x_1 : (Int × (List (Int × Int)))) (x_12 : Int) (c1 : Int → Option Bool) (Hc1 : ∀ (x_12 : Int) (s : Nat → V), Facts [(1, (.ref (.bx 1) 0 [] (.agg [(ji x_1.1), (Enc.enc (x_1.2 : List (Int × Int)))]))), (2, (jb false)), (3, (ji x_12))] s → c1 x_12 = some r → Run D σ (R72 r) (.run A72_1 [.lp A72_1, .bk 0, .sq A72_7]) s) (x_28 : Bool) (s : Nat → V) (hs : Facts [(1, (.ref (.bx 1) 0 [] (.agg [(ji x_1.1), (Enc.enc (x_1.2 : List (Int × Int)))]))), (2, (jb false)), (3, (ji x_12)), (54, (jb x_28))] s) (h : s_l2Good_j1 F x_1 x_12 c1 x_28 = some r) : Run D σ (R72 r) (.nrm [.sq A72_5, .bk 1, .sq A72_6, .lp A72_1, .bk 0, .sq A72_7]) s := by
  unfold s_l2Good_j1 at h
  obtain ⟨h1, h2, h3, h54⟩ := hs
  refine .nsq (run_cond (t := x_28) h54 h (fun h => ?_) (fun h => ?_))
  · refine .seq (rg (g0 (jb false) fun h2 => ?_))
    refine gq (.nsq (.ret ?_))
    have hr := Option.some.inj h
    subst hr
    exact rrA (res_tmp h2) rfl
  refine .skip (.nbk (.nsq (rg (gm h3 fun h10 => g1 10 (ji (w64 (x_12 + 1))) h10 fun h11 => ?_))))
  refine gm h11 fun h3 => gq (.nlp ?_)
  exact Hc1 (w64 (x_12 + 1)) _ ⟨h1, h2, h3⟩ h
def s_l2Good_l1 (F : Nat) (x_1 : (Int × (List (Int × Int))))  : Nat → Int → Option Bool
  | 0, _ => none
  | k + 1, x_12 =>
    bif decide (x_12 < (x_1.2.length : Int)) then
      (idx x_1.2 x_12).bind fun e_23 =>
      (s_l1In F e_23.1 0 (w64 (x_1.1 - 1))).bind fun r_29 =>
      bif (!r_29) then
        s_l2Good_j1 F x_1 x_12 (s_l2Good_l1 F x_1 k) true
      else
        (s_l1In F e_23.2 0 (w64 (x_1.1 - 1))).bind fun r_30 =>
        bif (!r_30) then
          s_l2Good_j1 F x_1 x_12 (s_l2Good_l1 F x_1 k) true
        else
          bif decide (e_23.1 ≥ e_23.2) then
            s_l2Good_j1 F x_1 x_12 (s_l2Good_l1 F x_1 k) true
          else
            bif decide (x_12 > 0) then
              (idx x_1.2 (w64 (x_12 - 1))).bind fun e_31 =>
              (s_l2Before F e_31 e_23).bind fun r_32 =>
              s_l2Good_j1 F x_1 x_12 (s_l2Good_l1 F x_1 k) (!r_32)
            else
              s_l2Good_j1 F x_1 x_12 (s_l2Good_l1 F x_1 k) false
    else
      (s_l1In F x_1.1 0 8).bind fun r_33 =>
      some r_33
theorem t_f72_l1 (H : H72 D σ F) (x_1 : (Int × (List (Int × Int))))  : ∀ (k : Nat) (x_12 : Int) (s : Nat → V), Facts [(1, (.ref (.bx 1) 0 [] (.agg [(ji x_1.1), (Enc.enc (x_1.2 : List (Int × Int)))]))), (2, (jb false)), (3, (ji x_12))] s → s_l2Good_l1 F x_1 k x_12 = some r → Run D σ (R72 r) (.run A72_1 [.lp A72_1, .bk 0, .sq A72_7]) s := by
  intro k
  induction k with
  | zero => intro x_12 s _ h; exact nomatch (h : (none : Option _) = some r)
  | succ k ih =>
    intro x_12 s hs h
    rw [s_l2Good_l1] at h
    obtain ⟨h1, h2, h3⟩ := hs
    refine .seq (.seq (rg (gm h3 fun h5 => g1 1 (.ref (.bx 1) 0 [1] (Enc.enc (x_1.2 : List (Int × Int)))) h1 fun h6 => ?_)))
    refine g1 6 (Enc.enc (x_1.2 : List (Int × Int))) h6 fun h7 => ?_
    refine gv (ji (x_1.2.length : Int)) (ev_len (xs := x_1.2) h7) fun h8 => ?_
    refine g2 5 8 (jb (decide (x_12 < (x_1.2.length : Int)))) h5 h8 fun h9 => ?_
    refine gq (.nsq (run_cond (t := decide (x_12 < (x_1.2.length : Int))) h9 h (fun h => ?_) (fun h => ?_)))
    · refine .skip (.nsq (.seq (.block (.seq (run_reg ?_)))))
      refine e_clr ?_
      refine ez [(1, _), (2, _), (3, _), (4, _)] ⟨(keep_clear (pk := [4]) h1 rfl (map_bx rfl (map_agg (maps_cons mi (maps_cons me maps_nil))))), (keep_clear (pk := [4]) h2 rfl mb), (keep_clear (pk := [4]) h3 rfl mi), (gone_clear (pk := [4]) (t := 4) rfl)⟩ ?_
      rintro s ⟨h1, h2, h3, h4⟩
      refine g1 1 (.ref (.bx 1) 0 [1] (Enc.enc (x_1.2 : List (Int × Int)))) h1 fun h12 => ?_
      refine g1 12 (Enc.enc (x_1.2 : List (Int × Int))) h12 fun h13 => ?_
      refine gm h3 fun h14 => ?_
      obtain ⟨e_23, E_e_23, h⟩ := bind_some h
      refine gv (.ref .sh 0 [] (.agg [(ji e_23.1), (ji e_23.2)])) (ev_idx (t := .sh) (lo := 0) (xs := x_1.2) h13 h14 E_e_23 rfl rfl) fun h15 => ?_
      refine g1 15 (.agg [(ji e_23.1), (ji e_23.2)]) h15 fun h16 => ?_
      refine g_alloc h4 ?_
      refine g_store (.agg [(ji e_23.1), (ji e_23.2)]) (rd_of rfl rfl) (rd_of h16 rfl) (by refine ⟨by decide, by decide, rfl, rfl, rfl, ?_⟩; first | rfl | simp [V.toks, V.tokss, Enc.toks_enc]) ?_
      refine gz [(1, (.ref (.bx 1) 0 [] (.agg [(ji x_1.1), (Enc.enc (x_1.2 : List (Int × Int)))]))), (2, (jb false)), (3, (ji x_12)), (4, (.ref (.bx 4) 0 [] (.agg [(ji e_23.1), (ji e_23.2)])))] ⟨(keep_mut h1 (mut_ref_ne rfl rfl (mut_agg (muts_cons rfl (muts_cons (Enc.mut_enc _ _ _ _ (x_1.2 : List (Int × Int))) rfl))))), (keep_mut h2 rfl), (keep_mut h3 rfl), (keep_mut rfl rfl)⟩ ?_
      rintro s ⟨h1, h2, h3, h4⟩
      refine .nsq (.seq (rg (g1 4 (.ref (.bx 4) 0 [0] (ji e_23.1)) h4 fun h17 => ?_)))
      refine g1 17 (ji e_23.1) h17 fun h18 => ?_
      refine g1 1 (.ref (.bx 1) 0 [0] (ji x_1.1)) h1 fun h19 => ?_
      refine g1 19 (ji x_1.1) h19 fun h20 => ?_
      refine g1 20 (ji (w64 (x_1.1 - 1))) h20 fun h21 => ?_
      obtain ⟨r_29, E_r_29, h⟩ := bind_some h
      refine g_call (m := 0) (al := false) (r := (Enc.enc (r_29 : Bool))) [Enc.enc (e_23.1 : Int), Enc.enc (0 : Int), Enc.enc (w64 (x_1.1 - 1) : Int)] (ta_cons (v := (ji e_23.1)) h18 rfl rfl (ta_cons (v := (ji 0)) rfl rfl rfl (ta_cons (v := (ji (w64 (x_1.1 - 1)))) h21 rfl rfl ta_nil))) (H.c103 _ _ _ _ E_r_29) H.g103 rfl rfl rfl rfl ?_
      refine g1 22 (jb (!r_29)) (rfl : (_ : V) = (jb r_29)) fun h23 => ?_
      refine gm h23 fun h24 => split_on (c := (!r_29)) h (fun hg8 h => ?_) (fun hg8 h => ?_)
      · refine g_no (h24.trans (congrArg V.bool hg8)) ?_
        refine g_no (h24.trans (congrArg V.bool hg8)) ?_
        refine g_no (h24.trans (congrArg V.bool hg8)) ?_
        refine g_no (h24.trans (congrArg V.bool hg8)) ?_
        refine g_no (h24.trans (congrArg V.bool hg8)) ?_
        refine g_no (h24.trans (congrArg V.bool hg8)) ?_
        refine g_no (h24.trans (congrArg V.bool hg8)) ?_
        refine g2 24 31 (jb true) (h24.trans (congrArg V.bool hg8)) (rfl : (_ : V) = (.tup [])) fun h32 => ?_
        refine gm h32 fun h33 => g_no h33 ?_
        refine g_no h33 ?_
        refine g_no h33 ?_
        refine g_no h33 ?_
        refine g_no h33 ?_
        refine g2 33 38 (jb true) h33 (rfl : (_ : V) = (.tup [])) fun h39 => ?_
        refine gm h39 fun h40 => g_no h40 ?_
        refine g_no h40 ?_
        refine g_no h40 ?_
        refine g_skip rfl ?_
        refine g_skip rfl ?_
        refine g_skip rfl ?_
        refine g_skip rfl ?_
        refine g_skip rfl ?_
        refine g_skip rfl ?_
        refine g_skip rfl ?_
        refine g_skip rfl ?_
        refine g_skip rfl ?_
        refine g_no h40 ?_
        refine g2 40 53 (jb true) h40 (rfl : (_ : V) = (.tup [])) fun h54 => ?_
        refine gz [(1, _), (2, _), (3, _), (54, _)] ⟨h1, h2, h3, h54⟩ ?_
        rintro s ⟨h1, h2, h3, h54⟩
        exact t_f72_j1 H x_1 x_12 (s_l2Good_l1 F x_1 k) ih true _ ⟨h1, h2, h3, h54⟩ h
      refine g_yes (h24.trans (congrArg V.bool hg8)) (g1 4 (.ref (.bx 4) 0 [1] (ji e_23.2)) h4 fun h25 => ?_)
      refine g_yes (h24.trans (congrArg V.bool hg8)) (g1 25 (ji e_23.2) h25 fun h26 => ?_)
      refine g_yes (h24.trans (congrArg V.bool hg8)) (g1 1 (.ref (.bx 1) 0 [0] (ji x_1.1)) h1 fun h27 => ?_)
      refine g_yes (h24.trans (congrArg V.bool hg8)) (g1 27 (ji x_1.1) h27 fun h28 => ?_)
      refine g_yes (h24.trans (congrArg V.bool hg8)) (g1 28 (ji (w64 (x_1.1 - 1))) h28 fun h29 => ?_)
      obtain ⟨r_30, E_r_30, h⟩ := bind_some h
      refine g_yes (h24.trans (congrArg V.bool hg8)) (g_call (m := 0) (al := false) (r := (Enc.enc (r_30 : Bool))) [Enc.enc (e_23.2 : Int), Enc.enc (0 : Int), Enc.enc (w64 (x_1.1 - 1) : Int)] (ta_cons (v := (ji e_23.2)) h26 rfl rfl (ta_cons (v := (ji 0)) rfl rfl rfl (ta_cons (v := (ji (w64 (x_1.1 - 1)))) h29 rfl rfl ta_nil))) (H.c103 _ _ _ _ E_r_30) H.g103 rfl rfl rfl rfl ?_)
      refine g_yes (h24.trans (congrArg V.bool hg8)) (g1 30 (jb (!r_30)) (rfl : (_ : V) = (jb r_30)) fun h31 => ?_)
      refine g2 24 31 (jb (!r_30)) (h24.trans (congrArg V.bool hg8)) h31 fun h32 => ?_
      refine gm h32 fun h33 => split_on (c := (!r_30)) h (fun hg17 h => ?_) (fun hg17 h => ?_)
      · refine g_no (h33.trans (congrArg V.bool hg17)) ?_
        refine g_no (h33.trans (congrArg V.bool hg17)) ?_
        refine g_no (h33.trans (congrArg V.bool hg17)) ?_
        refine g_no (h33.trans (congrArg V.bool hg17)) ?_
        refine g_no (h33.trans (congrArg V.bool hg17)) ?_
        refine g2 33 38 (jb true) (h33.trans (congrArg V.bool hg17)) (rfl : (_ : V) = (.tup [])) fun h39 => ?_
        refine gm h39 fun h40 => g_no h40 ?_
        refine g_no h40 ?_
        refine g_no h40 ?_
        refine g_skip rfl ?_
        refine g_skip rfl ?_
        refine g_skip rfl ?_
        refine g_skip rfl ?_
        refine g_skip rfl ?_
        refine g_skip rfl ?_
        refine g_skip rfl ?_
        refine g_skip rfl ?_
        refine g_skip rfl ?_
        refine g_no h40 ?_
        refine g2 40 53 (jb true) h40 (rfl : (_ : V) = (.tup [])) fun h54 => ?_
        refine gz [(1, _), (2, _), (3, _), (54, _)] ⟨h1, h2, h3, h54⟩ ?_
        rintro s ⟨h1, h2, h3, h54⟩
        exact t_f72_j1 H x_1 x_12 (s_l2Good_l1 F x_1 k) ih true _ ⟨h1, h2, h3, h54⟩ h
      refine g_yes (h33.trans (congrArg V.bool hg17)) (g1 4 (.ref (.bx 4) 0 [0] (ji e_23.1)) h4 fun h34 => ?_)
      refine g_yes (h33.trans (congrArg V.bool hg17)) (g1 34 (ji e_23.1) h34 fun h35 => ?_)
      refine g_yes (h33.trans (congrArg V.bool hg17)) (g1 4 (.ref (.bx 4) 0 [1] (ji e_23.2)) h4 fun h36 => ?_)
      refine g_yes (h33.trans (congrArg V.bool hg17)) (g1 36 (ji e_23.2) h36 fun h37 => ?_)
      refine g_yes (h33.trans (congrArg V.bool hg17)) (g2 35 37 (jb (decide (e_23.1 ≥ e_23.2))) h35 h37 fun h38 => ?_)
      refine g2 33 38 (jb (decide (e_23.1 ≥ e_23.2))) (h33.trans (congrArg V.bool hg17)) h38 fun h39 => ?_
      refine gm h39 fun h40 => split_on (c := decide (e_23.1 ≥ e_23.2)) h (fun hg24 h => ?_) (fun hg24 h => ?_)
      · refine g_no (h40.trans (congrArg V.bool hg24)) ?_
        refine g_no (h40.trans (congrArg V.bool hg24)) ?_
        refine g_no (h40.trans (congrArg V.bool hg24)) ?_
        refine g_skip rfl ?_
        refine g_skip rfl ?_
        refine g_skip rfl ?_
        refine g_skip rfl ?_
        refine g_skip rfl ?_
        refine g_skip rfl ?_
        refine g_skip rfl ?_
        refine g_skip rfl ?_
        refine g_skip rfl ?_
        refine g_no (h40.trans (congrArg V.bool hg24)) ?_
        refine g2 40 53 (jb true) (h40.trans (congrArg V.bool hg24)) (rfl : (_ : V) = (.tup [])) fun h54 => ?_
        refine gz [(1, _), (2, _), (3, _), (54, _)] ⟨h1, h2, h3, h54⟩ ?_
        rintro s ⟨h1, h2, h3, h54⟩
        exact t_f72_j1 H x_1 x_12 (s_l2Good_l1 F x_1 k) ih true _ ⟨h1, h2, h3, h54⟩ h
      refine g_yes (h40.trans (congrArg V.bool hg24)) (gm h3 fun h41 => ?_)
      refine g_yes (h40.trans (congrArg V.bool hg24)) (g1 41 (jb (decide (x_12 > 0))) h41 fun h42 => ?_)
      refine g_yes (h40.trans (congrArg V.bool hg24)) (gm h42 fun h43 => ?_)
      refine split_on (c := decide (x_12 > 0)) h (fun hg27 h => ?_) (fun hg27 h => ?_)
      · refine g_yes (h43.trans (congrArg V.bool hg27)) (g1 1 (.ref (.bx 1) 0 [1] (Enc.enc (x_1.2 : List (Int × Int)))) h1 fun h44 => ?_)
        refine g_yes (h43.trans (congrArg V.bool hg27)) (g1 44 (Enc.enc (x_1.2 : List (Int × Int))) h44 fun h45 => ?_)
        refine g_yes (h43.trans (congrArg V.bool hg27)) (gm h3 fun h46 => ?_)
        refine g_yes (h43.trans (congrArg V.bool hg27)) (g1 46 (ji (w64 (x_12 - 1))) h46 fun h47 => ?_)
        obtain ⟨e_31, E_e_31, h⟩ := bind_some h
        refine g_yes (h43.trans (congrArg V.bool hg27)) (gv (.ref .sh 0 [] (.agg [(ji e_31.1), (ji e_31.2)])) (ev_idx (t := .sh) (lo := 0) (xs := x_1.2) h45 h47 E_e_31 rfl rfl) fun h48 => ?_)
        refine g_yes (h43.trans (congrArg V.bool hg27)) (g1 48 (.agg [(ji e_31.1), (ji e_31.2)]) h48 fun h49 => ?_)
        refine g_yes (h43.trans (congrArg V.bool hg27)) (g1 4 (.agg [(ji e_23.1), (ji e_23.2)]) h4 fun h50 => ?_)
        obtain ⟨r_32, E_r_32, h⟩ := bind_some h
        refine g_yes (h43.trans (congrArg V.bool hg27)) (g_call (m := 0) (al := false) (r := (Enc.enc (r_32 : Bool))) [Enc.enc (e_31 : (Int × Int)), Enc.enc (e_23 : (Int × Int))] (ta_cons (v := (.agg [(ji e_31.1), (ji e_31.2)])) h49 rfl (Enc.erase_enc (e_31 : (Int × Int))) (ta_cons (v := (.agg [(ji e_23.1), (ji e_23.2)])) h50 rfl (Enc.erase_enc (e_23 : (Int × Int))) ta_nil)) (H.c130 _ _ _ E_r_32) H.g130 rfl rfl rfl rfl ?_)
        refine g_yes (h43.trans (congrArg V.bool hg27)) (g1 51 (jb (!r_32)) (rfl : (_ : V) = (jb r_32)) fun h52 => ?_)
        refine g_yes (h40.trans (congrArg V.bool hg24)) (g2 43 52 (jb (!r_32)) (h43.trans (congrArg V.bool hg27)) h52 fun h53 => ?_)
        refine g2 40 53 (jb (!r_32)) (h40.trans (congrArg V.bool hg24)) h53 fun h54 => ?_
        refine gz [(1, _), (2, _), (3, _), (54, _)] ⟨h1, h2, h3, h54⟩ ?_
        rintro s ⟨h1, h2, h3, h54⟩
        exact t_f72_j1 H x_1 x_12 (s_l2Good_l1 F x_1 k) ih (!r_32) _ ⟨h1, h2, h3, h54⟩ h
      refine g_no (h43.trans (congrArg V.bool hg27)) ?_
      refine g_no (h43.trans (congrArg V.bool hg27)) ?_
      refine g_no (h43.trans (congrArg V.bool hg27)) ?_
      refine g_no (h43.trans (congrArg V.bool hg27)) ?_
      refine g_no (h43.trans (congrArg V.bool hg27)) ?_
      refine g_no (h43.trans (congrArg V.bool hg27)) ?_
      refine g_no (h43.trans (congrArg V.bool hg27)) ?_
      refine g_no (h43.trans (congrArg V.bool hg27)) ?_
      refine g_no (h43.trans (congrArg V.bool hg27)) ?_
      refine g_yes (h40.trans (congrArg V.bool hg24)) (g2 43 52 (jb false) (h43.trans (congrArg V.bool hg27)) (rfl : (_ : V) = (.tup [])) fun h53 => ?_)
      refine g2 40 53 (jb false) (h40.trans (congrArg V.bool hg24)) h53 fun h54 => ?_
      refine gz [(1, _), (2, _), (3, _), (54, _)] ⟨h1, h2, h3, h54⟩ ?_
      rintro s ⟨h1, h2, h3, h54⟩
      exact t_f72_j1 H x_1 x_12 (s_l2Good_l1 F x_1 k) ih false _ ⟨h1, h2, h3, h54⟩ h
    refine .exit (.esq (.elp (.ebk (.nsq (.seq (rg (g1 1 (.ref (.bx 1) 0 [0] (ji x_1.1)) h1 fun h55 => ?_)))))))
    refine g1 55 (ji x_1.1) h55 fun h56 => ?_
    obtain ⟨r_33, E_r_33, h⟩ := bind_some h
    refine g_call (m := 0) (al := false) (r := (Enc.enc (r_33 : Bool))) [Enc.enc (x_1.1 : Int), Enc.enc (0 : Int), Enc.enc (8 : Int)] (ta_cons (v := (ji x_1.1)) h56 rfl rfl (ta_cons (v := (ji 0)) rfl rfl rfl (ta_cons (v := (ji 8)) rfl rfl rfl ta_nil))) (H.c103 _ _ _ _ E_r_33) H.g103 rfl rfl rfl rfl ?_
    refine gm (rfl : (_ : V) = (jb r_33)) fun h2 => ?_
    refine gq (.nsq (.ret ?_))
    have hr := Option.some.inj h
    subst hr
    exact rrA (res_tmp h2) rfl
def s_l2Good (F : Nat) (x_1 : (Int × (List (Int × Int)))) : Option Bool :=
  s_l2Good_l1 F x_1 F 0
theorem t72 (H : H72 D σ F) (x_1 : (Int × (List (Int × Int)))) (s : Nat → V) (hs : Facts [(0, (.agg [(ji x_1.1), (Enc.enc (x_1.2 : List (Int × Int)))]))] s) (h : s_l2Good F x_1 = some r) : Run D σ (R72 r) (.run A72 []) s := by
  unfold s_l2Good at h
  have h0 := hs
  refine .seq (run_reg ?_)
  refine e_clr ?_
  refine ez [(0, _), (1, _)] ⟨(keep_clear (pk := [1]) h0 rfl (map_agg (maps_cons mi (maps_cons me maps_nil)))), (gone_clear (pk := [1]) (t := 1) rfl)⟩ ?_
  rintro s ⟨h0, h1⟩
  refine g_box (.agg [(ji x_1.1), (Enc.enc (x_1.2 : List (Int × Int)))]) (rd_of h0 rfl) h1 rfl ?_
  refine g0 (jb false) fun h2 => ?_
  refine gq (.nsq (.seq (.seq (rg (g0 (ji 0) fun h3 => gq (.nsq (.block (.loop ?_))))))))
  exact t_f72_l1 H x_1 F 0 _ ⟨rfl, h2, h3⟩ h
end
def e72 (F : Nat) : Ent := ent 72 (fun (x : ((Int × (List (Int × Int))) × Unit)) => s_l2Good F x.1) (fun (r : Bool) => (Enc.enc (r : Bool))) 0 false []
theorem p72 {F : Nat} {x0 : (Int × (List (Int × Int)))} {r : Bool} (h : s_l2Good F x0 = some r) : (e72 F).den [Enc.enc x0] = some (Enc.enc (r : Bool)) := ent_put (x0, ()) h
theorem o72 {D : Den} {σ : Sig} {F : Nat} (hF : Fits2 Try.prog D σ) (H : H72 D σ F) : (e72 F).Ok Try.prog := by
  refine ok_of (f := 72) (show unk 72 = 72 from rfl) (fun args r h => ?_) ⟨Try.f72, Try.func72, rfl, rfl⟩
  obtain ⟨⟨x0, _⟩, y, rfl, hy, rfl⟩ := da_open h
  exact contract_run hF (by kernel_rfl) Try.func72 rfl c72 (show 1 ≤ Try.f72.ntmps by decide) (t72 H x0 _ rfl hy)
/- loop.example/g01109/spec.l1Has -/
def A74_2 : AC := (.cond (.t 9) .skip (.exit 0))
def A74_4 : AC := (.cond (.t 17) (.seq (.reg [] [((jv 4 (.mov (.k (.bool true)))))] []) .ret) .skip)
def A74_5 : AC := (.reg [] [(jm 10 5), ((jv 11 (.bin .add (.t 10) (jn 1)))), (jm 5 11)] [])
def A74_3 : AC := (.seq (.block 1 (.seq (.reg [] [(jm 12 0), (jm 13 5), ((jv 14 (.idx (.t 12) (.t 13) 1))), ((jv 15 (.load .s (.t 14)))), (jm 16 1), ((jv 17 (.bin .eql (.t 15) (.t 16))))] []) A74_4)) A74_5)
def A74_1 : AC := (.seq (.seq (.reg [] [(jm 6 5), (jm 7 0), ((jv 8 (.len (.t 7)))), ((jv 9 (.bin .lss (.t 6) (.t 8))))] []) A74_2) A74_3)
def A74_6 : AC := (.seq (.reg [] [((jv 4 (.mov (.k (.bool false)))))] []) .ret)
def A74_8 : AC := (.block 0 (.loop A74_1))
def A74_7 : AC := (.seq (.seq (.reg [] [((jv 5 (.mov (jn 0))))] []) A74_8) A74_6)
def A74 : AC := (.seq (.reg [] [((jv 4 (.mov (.k (.bool false)))))] []) A74_7)
def an74 : List An := []
theorem c74 : cC Try.prog Try.f74.ntmps an74 (Try.f74.body.getD .skip) = some A74 := by kernel_rfl
structure H74 (D : Den) (σ : Sig) (F : Nat) : Prop where
  mk ::
abbrev R74 (r : Bool) : (Nat → V) → Prop := RR Try.prog [.tmp 4] 0 false (Enc.enc (r : Bool))
section
variable {D : Den} {σ : Sig} {F : Nat} {r : Bool}
def s_l1Has_l1 (F : Nat) (x_1 : (List Int)) (x_2 : Int)  : Nat → Int → Option Bool
  | 0, _ => none
  | k + 1, x_4 =>
    bif decide (x_4 < (x_1.length : Int)) then
      (idx x_1 x_4).bind fun e_6 =>
      bif (e_6 == x_2) then
        some true
      else
        (s_l1Has_l1 F x_1 x_2 k) (w64 (x_4 + 1))
    else
      some false
theorem t_f74_l1 (H : H74 D σ F) (x_1 : (List Int)) (x_2 : Int)  : ∀ (k : Nat) (x_4 : Int) (s : Nat → V), Facts [(0, (eL x_1)), (1, (ji x_2)), (4, (jb false)), (5, (ji x_4))] s → s_l1Has_l1 F x_1 x_2 k x_4 = some r → Run D σ (R74 r) (.run A74_1 [.lp A74_1, .bk 0, .sq A74_6]) s := by
  intro k
  induction k with
  | zero => intro x_4 s _ h; exact nomatch (h : (none : Option _) = some r)
  | succ k ih =>
    intro x_4 s hs h
    rw [s_l1Has_l1] at h
    obtain ⟨h0, h1, h4, h5⟩ := hs
    refine .seq (.seq (rg (gm h5 fun h6 => gm h0 fun h7 => gv (ji (x_1.length : Int)) (ev_len (xs := x_1) h7) fun h8 => ?_)))
    refine g2 6 8 (jb (decide (x_4 < (x_1.length : Int)))) h6 h8 fun h9 => ?_
    refine gq (.nsq (run_cond (t := decide (x_4 < (x_1.length : Int))) h9 h (fun h => ?_) (fun h => ?_)))
    · refine .skip (.nsq (.seq (.block (.seq (rg (gm h0 fun h12 => gm h5 fun h13 => ?_))))))
      obtain ⟨e_6, E_e_6, h⟩ := bind_some h
      refine gv (.ref .sh 0 [] (ji e_6)) (ev_idx (t := .sh) (lo := 0) (xs := x_1) h12 h13 E_e_6 rfl rfl) fun h14 => ?_
      refine g1 14 (ji e_6) h14 fun h15 => ?_
      refine gm h1 fun h16 => g2 15 16 (jb (e_6 == x_2)) h15 h16 fun h17 => ?_
      refine gq (.nsq (run_cond (t := (e_6 == x_2)) h17 h (fun h => ?_) (fun h => ?_)))
      · refine .seq (rg (g0 (jb true) fun h4 => ?_))
        refine gq (.nsq (.ret ?_))
        have hr := Option.some.inj h
        subst hr
        exact rrA (res_tmp h4) rfl
      refine .skip (.nbk (.nsq (rg (gm h5 fun h10 => g1 10 (ji (w64 (x_4 + 1))) h10 fun h11 => ?_))))
      refine gm h11 fun h5 => gq (.nlp ?_)
      exact ih (w64 (x_4 + 1)) _ ⟨h0, h1, h4, h5⟩ h
    refine .exit (.esq (.elp (.ebk (.nsq (.seq (rg (g0 (jb false) fun h4 => ?_)))))))
    refine gq (.nsq (.ret ?_))
    have hr := Option.some.inj h
    subst hr
    exact rrA (res_tmp h4) rfl
def s_l1Has (F : Nat) (x_1 : (List Int)) (x_2 : Int) : Option Bool :=
  s_l1Has_l1 F x_1 x_2 F 0
theorem t74 (H : H74 D σ F) (x_1 : (List Int)) (x_2 : Int) (s : Nat → V) (hs : Facts [(0, (eL x_1)), (1, (ji x_2))] s) (h : s_l1Has F x_1 x_2 = some r) : Run D σ (R74 r) (.run A74 []) s := by
  unfold s_l1Has at h
  obtain ⟨h0, h1⟩ := hs
  refine .seq (rg (g0 (jb false) fun h4 => ?_))
  refine gq (.nsq (.seq (.seq (rg (g0 (ji 0) fun h5 => gq (.nsq (.block (.loop ?_))))))))
  exact t_f74_l1 H x_1 x_2 F 0 _ ⟨h0, h1, h4, h5⟩ h
end
def e74 (F : Nat) : Ent := ent 74 (fun (x : ((List Int) × Int × Unit)) => s_l1Has F x.1 x.2.1) (fun (r : Bool) => (Enc.enc (r : Bool))) 0 false []
theorem p74 {F : Nat} {x0 : (List Int)} {x1 : Int} {r : Bool} (h : s_l1Has F x0 x1 = some r) : (e74 F).den [Enc.enc x0, Enc.enc x1] = some (Enc.enc (r : Bool)) := ent_put (x0, x1, ()) h
theorem o74 {D : Den} {σ : Sig} {F : Nat} (hF : Fits2 Try.prog D σ) (H : H74 D σ F) : (e74 F).Ok Try.prog := by
  refine ok_of (f := 74) (show unk 74 = 74 from rfl) (fun args r h => ?_) ⟨Try.f74, Try.func74, rfl, rfl⟩
  obtain ⟨⟨x0, x1, _⟩, y, rfl, hy, rfl⟩ := da_open h
  exact contract_run hF (by kernel_rfl) Try.func74 rfl c74 (show 2 ≤ Try.f74.ntmps by decide) (t74 H x0 x1 _ ⟨rfl, rfl⟩ hy)
/- loop.example/g01109/spec.l2Each -/
def A119_2 : AC := (.cond (.t 9) .skip (.exit 0))
def A119_4 : AC := (.cond (.t 15) (.seq (.reg [] [((jv 4 (.mov (.k (.bool false)))))] []) .ret) .skip)
def A119_5 : AC := (.reg [] [(jm 10 5), ((jv 11 (.bin .add (.t 10) (jn 1)))), (jm 5 11)] [])
def A119_3 : AC := (.seq (.block 1 (.seq (.reg [] [(jm 12 1), (jm 13 5), (.mk (some 14) none false (.call (.k (.fn 74 [] [])) [(.t 12), (.t 13)])), ((jv 15 (.un .not (.t 14))))] []) A119_4)) A119_5)
def A119_1 : AC := (.seq (.seq (.reg [] [(jm 6 5), ((jv 7 (.fld (.t 2) 0 0))), ((jv 8 (.load .s (.t 7)))), ((jv 9 (.bin .lss (.t 6) (.t 8))))] []) A119_2) A119_3)
def A119_6 : AC := (.seq (.reg [] [(jm 16 1), ((jv 17 (.len (.t 16)))), ((jv 18 (.fld (.t 2) 0 0))), ((jv 19 (.load .s (.t 18)))), ((jv 20 (.bin .eql (.t 17) (.t 19)))), (jm 4 20)] []) .ret)
def A119_8 : AC := (.block 0 (.loop A119_1))
def A119_7 : AC := (.seq (.seq (.reg [] [((jv 5 (.mov (jn 0))))] []) A119_8) A119_6)
def A119 : AC := (.seq (.reg [.clr [2]] [(.mk (some 2) none false (.box (.t 0))), ((jv 4 (.mov (.k (.bool false)))))] []) A119_7)
def an119 : List An := [{ id := 0, pre := [.clr [2]], ep := [], lin := [], sp := [] }]
theorem c119 : cC Try.prog Try.f119.ntmps an119 (Try.f119.body.getD .skip) = some A119 := by kernel_rfl
structure H119 (D : Den) (σ : Sig) (F : Nat) : Prop where
  c74 : ∀ (x0 : (List Int)) (x1 : Int) r, s_l1Has F x0 x1 = some r → D 74 [Enc.enc x0, Enc.enc x1] = some (Enc.enc (r : Bool))
  g74 : σ 74 = some (0, false)
abbrev R119 (r : Bool) : (Nat → V) → Prop := RR Try.prog [.tmp 4] 0 false (Enc.enc (r : Bool))
section
variable {D : Den} {σ : Sig} {F : Nat} {r : Bool}
def s_l2Each_l1 (F : Nat) (x_2 : (List Int)) (x_1 : (Int × (List (Int × Int))))  : Nat → Int → Option Bool
  | 0, _ => none
  | k + 1, x_4 =>
    bif decide (x_4 < x_1.1) then
      (s_l1Has F x_2 x_4).bind fun r_6 =>
      bif (!r_6) then
        some false
      else
        (s_l2Each_l1 F x_2 x_1 k) (w64 (x_4 + 1))
    else
      some ((x_2.length : Int) == x_1.1)
theorem t_f119_l1 (H : H119 D σ F) (x_2 : (List Int)) (x_1 : (Int × (List (Int × Int))))  : ∀ (k : Nat) (x_4 : Int) (s : Nat → V), Facts [(1, (eL x_2)), (2, (.ref (.bx 2) 0 [] (.agg [(ji x_1.1), (Enc.enc (x_1.2 : List (Int × Int)))]))), (4, (jb false)), (5, (ji x_4))] s → s_l2Each_l1 F x_2 x_1 k x_4 = some r → Run D σ (R119 r) (.run A119_1 [.lp A119_1, .bk 0, .sq A119_6]) s := by
  intro k
  induction k with
  | zero => intro x_4 s _ h; exact nomatch (h : (none : Option _) = some r)
  | succ k ih =>
    intro x_4 s hs h
    rw [s_l2Each_l1] at h
    obtain ⟨h1, h2, h4, h5⟩ := hs
    refine .seq (.seq (rg (gm h5 fun h6 => g1 2 (.ref (.bx 2) 0 [0] (ji x_1.1)) h2 fun h7 => ?_)))
    refine g1 7 (ji x_1.1) h7 fun h8 => ?_
    refine g2 6 8 (jb (decide (x_4 < x_1.1))) h6 h8 fun h9 => ?_
    refine gq (.nsq (run_cond (t := decide (x_4 < x_1.1)) h9 h (fun h => ?_) (fun h => ?_)))
    · refine .skip (.nsq (.seq (.block (.seq (rg (gm h1 fun h12 => gm h5 fun h13 => ?_))))))
      obtain ⟨r_6, E_r_6, h⟩ := bind_some h
      refine g_call (m := 0) (al := false) (r := (Enc.enc (r_6 : Bool))) [Enc.enc (x_2 : (List Int)), Enc.enc (x_4 : Int)] (ta_cons (v := (eL x_2)) h12 rfl (Enc.erase_enc (x_2 : (List Int))) (ta_cons (v := (ji x_4)) h13 rfl rfl ta_nil)) (H.c74 _ _ _ E_r_6) H.g74 rfl rfl rfl rfl ?_
      refine g1 14 (jb (!r_6)) (rfl : (_ : V) = (jb r_6)) fun h15 => ?_
      refine gq (.nsq (run_cond (t := (!r_6)) h15 h (fun h => ?_) (fun h => ?_)))
      · refine .seq (rg (g0 (jb false) fun h4 => ?_))
        refine gq (.nsq (.ret ?_))
        have hr := Option.some.inj h
        subst hr
        exact rrA (res_tmp h4) rfl
      refine .skip (.nbk (.nsq (rg (gm h5 fun h10 => g1 10 (ji (w64 (x_4 + 1))) h10 fun h11 => ?_))))
      refine gm h11 fun h5 => gq (.nlp ?_)
      exact ih (w64 (x_4 + 1)) _ ⟨h1, h2, h4, h5⟩ h
    refine .exit (.esq (.elp (.ebk (.nsq (.seq (rg (gm h1 fun h16 => gv (ji (x_2.length : Int)) (ev_len (xs := x_2) h16) fun h17 => ?_)))))))
    refine g1 2 (.ref (.bx 2) 0 [0] (ji x_1.1)) h2 fun h18 => ?_
    refine g1 18 (ji x_1.1) h18 fun h19 => ?_
    refine g2 17 19 (jb ((x_2.length : Int) == x_1.1)) h17 h19 fun h20 => ?_
    refine gm h20 fun h4 => gq (.nsq (.ret ?_))
    have hr := Option.some.inj h
    subst hr
    exact rrA (res_tmp h4) rfl
def s_l2Each (F : Nat) (x_1 : (Int × (List (Int × Int)))) (x_2 : (List Int)) : Option Bool :=
  s_l2Each_l1 F x_2 x_1 F 0
theorem t119 (H : H119 D σ F) (x_1 : (Int × (List (Int × Int)))) (x_2 : (List Int)) (s : Nat → V) (hs : Facts [(0, (.agg [(ji x_1.1), (Enc.enc (x_1.2 : List (Int × Int)))])), (1, (eL x_2))] s) (h : s_l2Each F x_1 x_2 = some r) : Run D σ (R119 r) (.run A119 []) s := by
  unfold s_l2Each at h
  obtain ⟨h0, h1⟩ := hs
  refine .seq (run_reg ?_)
  refine e_clr ?_
  refine ez [(0, _), (1, _), (2, _)] ⟨(keep_clear (pk := [2]) h0 rfl (map_agg (maps_cons mi (maps_cons me maps_nil)))), (keep_clear (pk := [2]) h1 rfl me), (gone_clear (pk := [2]) (t := 2) rfl)⟩ ?_
  rintro s ⟨h0, h1, h2⟩
  refine g_box (.agg [(ji x_1.1), (Enc.enc (x_1.2 : List (Int × Int)))]) (rd_of h0 rfl) h2 rfl ?_
  refine g0 (jb false) fun h4 => ?_
  refine gq (.nsq (.seq (.seq (rg (g0 (ji 0) fun h5 => gq (.nsq (.block (.loop ?_))))))))
  exact t_f119_l1 H x_2 x_1 F 0 _ ⟨h1, rfl, h4, h5⟩ h
end
def e119 (F : Nat) : Ent := ent 119 (fun (x : ((Int × (List (Int × Int))) × (List Int) × Unit)) => s_l2Each F x.1 x.2.1) (fun (r : Bool) => (Enc.enc (r : Bool))) 0 false []
theorem p119 {F : Nat} {x0 : (Int × (List (Int × Int)))} {x1 : (List Int)} {r : Bool} (h : s_l2Each F x0 x1 = some r) : (e119 F).den [Enc.enc x0, Enc.enc x1] = some (Enc.enc (r : Bool)) := ent_put (x0, x1, ()) h
theorem o119 {D : Den} {σ : Sig} {F : Nat} (hF : Fits2 Try.prog D σ) (H : H119 D σ F) : (e119 F).Ok Try.prog := by
  refine ok_of (f := 119) (show unk 119 = 119 from rfl) (fun args r h => ?_) ⟨Try.f119, Try.func119, rfl, rfl⟩
  obtain ⟨⟨x0, x1, _⟩, y, rfl, hy, rfl⟩ := da_open h
  exact contract_run hF (by kernel_rfl) Try.func119 rfl c119 (show 2 ≤ Try.f119.ntmps by decide) (t119 H x0 x1 _ ⟨rfl, rfl⟩ hy)
/- loop.example/g01109/spec.l6Layout -/
def A81_1 : AC := (.seq (.reg [] [((jv 5 (.load (.ag [.s, .p]) (.t 2)))), (jm 6 1), (.mk (some 7) none false (.call (.k (.fn 119 [] [])) [(.t 5), (.t 6)])), (jm 4 7)] []) .ret)
def A81 : AC := (.seq (.reg [.clr [2]] [(.mk (some 2) none false (.box (.t 0))), ((jv 4 (.mov (.k (.bool false)))))] []) A81_1)
def an81 : List An := [{ id := 0, pre := [.clr [2]], ep := [], lin := [], sp := [] }]
theorem c81 : cC Try.prog Try.f81.ntmps an81 (Try.f81.body.getD .skip) = some A81 := by kernel_rfl
structure H81 (D : Den) (σ : Sig) (F : Nat) : Prop where
  c119 : ∀ (x0 : (Int × (List (Int × Int)))) (x1 : (List Int)) r, s_l2Each F x0 x1 = some r → D 119 [Enc.enc x0, Enc.enc x1] = some (Enc.enc (r : Bool))
  g119 : σ 119 = some (0, false)
abbrev R81 (r : Bool) : (Nat → V) → Prop := RR Try.prog [.tmp 4] 0 false (Enc.enc (r : Bool))
section
variable {D : Den} {σ : Sig} {F : Nat} {r : Bool}
def s_l6Layout (F : Nat) (x_1 : (Int × (List (Int × Int)))) (x_2 : (List Int)) : Option Bool :=
  (s_l2Each F x_1 x_2).bind fun r_3 =>
  some r_3
theorem t81 (H : H81 D σ F) (x_1 : (Int × (List (Int × Int)))) (x_2 : (List Int)) (s : Nat → V) (hs : Facts [(0, (.agg [(ji x_1.1), (Enc.enc (x_1.2 : List (Int × Int)))])), (1, (eL x_2))] s) (h : s_l6Layout F x_1 x_2 = some r) : Run D σ (R81 r) (.run A81 []) s := by
  unfold s_l6Layout at h
  obtain ⟨h0, h1⟩ := hs
  refine .seq (run_reg ?_)
  refine e_clr ?_
  refine ez [(0, _), (1, _), (2, _)] ⟨(keep_clear (pk := [2]) h0 rfl (map_agg (maps_cons mi (maps_cons me maps_nil)))), (keep_clear (pk := [2]) h1 rfl me), (gone_clear (pk := [2]) (t := 2) rfl)⟩ ?_
  rintro s ⟨h0, h1, h2⟩
  refine g_box (.agg [(ji x_1.1), (Enc.enc (x_1.2 : List (Int × Int)))]) (rd_of h0 rfl) h2 rfl ?_
  refine g0 (jb false) fun h4 => ?_
  refine gq (.nsq (.seq (rg (g1 2 (.agg [(ji x_1.1), (Enc.enc (x_1.2 : List (Int × Int)))]) (rfl : (_ : V) = (.ref (.bx 2) 0 [] (.agg [(ji x_1.1), (Enc.enc (x_1.2 : List (Int × Int)))]))) fun h5 => ?_))))
  refine gm h1 fun h6 => ?_
  obtain ⟨r_3, E_r_3, h⟩ := bind_some h
  refine g_call (m := 0) (al := false) (r := (Enc.enc (r_3 : Bool))) [Enc.enc (x_1 : (Int × (List (Int × Int)))), Enc.enc (x_2 : (List Int))] (ta_cons (v := (.agg [(ji x_1.1), (Enc.enc (x_1.2 : List (Int × Int)))])) h5 rfl (Enc.erase_enc (x_1 : (Int × (List (Int × Int))))) (ta_cons (v := (eL x_2)) h6 rfl (Enc.erase_enc (x_2 : (List Int))) ta_nil)) (H.c119 _ _ _ E_r_3) H.g119 rfl rfl rfl rfl ?_
  refine gm (rfl : (_ : V) = (jb r_3)) fun h4 => ?_
  refine gq (.nsq (.ret ?_))
  have hr := Option.some.inj h
  subst hr
  exact rrA (res_tmp h4) rfl
end
def e81 (F : Nat) : Ent := ent 81 (fun (x : ((Int × (List (Int × Int))) × (List Int) × Unit)) => s_l6Layout F x.1 x.2.1) (fun (r : Bool) => (Enc.enc (r : Bool))) 0 false []
theorem p81 {F : Nat} {x0 : (Int × (List (Int × Int)))} {x1 : (List Int)} {r : Bool} (h : s_l6Layout F x0 x1 = some r) : (e81 F).den [Enc.enc x0, Enc.enc x1] = some (Enc.enc (r : Bool)) := ent_put (x0, x1, ()) h
theorem o81 {D : Den} {σ : Sig} {F : Nat} (hF : Fits2 Try.prog D σ) (H : H81 D σ F) : (e81 F).Ok Try.prog := by
  refine ok_of (f := 81) (show unk 81 = 81 from rfl) (fun args r h => ?_) ⟨Try.f81, Try.func81, rfl, rfl⟩
  obtain ⟨⟨x0, x1, _⟩, y, rfl, hy, rfl⟩ := da_open h
  exact contract_run hF (by kernel_rfl) Try.func81 rfl c81 (show 2 ≤ Try.f81.ntmps by decide) (t81 H x0 x1 _ ⟨rfl, rfl⟩ hy)
/- loop.example/g01109/spec.l2Near -/
def A145_2 : AC := (.cond (.t 13) .skip (.exit 0))
def A145_5 : AC := (.cond (.t 42) (.seq (.reg [] [((jv 6 (.mov (.k (.bool true)))))] []) .ret) .skip)
def A145_4 : AC := (.seq (.reg [] [((jv 21 (.idxA (.t 8) (jn 0) 2 1))), ((jv 22 (.load .s (.t 21)))), (jm 23 1), ((jv 24 (.bin .eql (.t 22) (.t 23)))), (jm 25 24), ((jg 26 25 true (.idxA (.t 8) (jn 1) 2 1))), ((jg 27 25 true (.load .s (.t 26)))), ((jg 28 25 true (.mov (.t 2)))), ((jg 29 25 true (.bin .eql (.t 27) (.t 28)))), ((jv 30 (.pick (.t 25) (.t 29) (.k (.bool false))))), (jm 31 30), ((jg 32 31 false (.idxA (.t 8) (jn 0) 2 1))), ((jg 33 31 false (.load .s (.t 32)))), ((jg 34 31 false (.mov (.t 2)))), ((jg 35 31 false (.bin .eql (.t 33) (.t 34)))), ((jg 36 31 false (.mov (.t 35)))), ((jg 37 36 true (.idxA (.t 8) (jn 1) 2 1))), ((jg 38 36 true (.load .s (.t 37)))), ((jg 39 36 true (.mov (.t 1)))), ((jg 40 36 true (.bin .eql (.t 38) (.t 39)))), ((jg 41 31 false (.pick (.t 36) (.t 40) (.k (.bool false))))), ((jv 42 (.pick (.t 31) (.k (.bool true)) (.t 41))))] []) A145_5)
def A145_6 : AC := (.reg [] [(jm 14 7), ((jv 15 (.bin .add (.t 14) (jn 1)))), (jm 7 15)] [])
def A145_3 : AC := (.seq (.block 1 (.seq (.reg [.clr [8]] [((jv 16 (.fld (.t 3) 1 1))), ((jv 17 (.load .p (.t 16)))), (jm 18 7), ((jv 19 (.idx (.t 17) (.t 18) 2))), ((jv 20 (.load (.ag [.s, .s]) (.t 19)))), (.mk (some 8) none false (.alloc (.agg [(.int .i64 (.ofNat 0)), (.int .i64 (.ofNat 0))]))), (.mk none none false (.store (.ag [.s, .s]) (.t 8) (.t 20)))] []) A145_4)) A145_6)
def A145_1 : AC := (.seq (.seq (.reg [] [(jm 9 7), ((jv 10 (.fld (.t 3) 1 1))), ((jv 11 (.load .p (.t 10)))), ((jv 12 (.len (.t 11)))), ((jv 13 (.bin .lss (.t 9) (.t 12))))] []) A145_2) A145_3)
def A145_7 : AC := (.seq (.reg [] [((jv 6 (.mov (.k (.bool false)))))] []) .ret)
def A145_9 : AC := (.block 0 (.loop A145_1))
def A145_8 : AC := (.seq (.seq (.reg [] [((jv 7 (.mov (jn 0))))] []) A145_9) A145_7)
def A145 : AC := (.seq (.reg [.clr [3]] [(.mk (some 3) none false (.box (.t 0))), ((jv 6 (.mov (.k (.bool false)))))] []) A145_8)
def an145 : List An := [{ id := 0, pre := [.clr [3]], ep := [], lin := [], sp := [] }, { id := 4, pre := [.clr [8]], ep := [], lin := [], sp := [] }]
theorem c145 : cC Try.prog Try.f145.ntmps an145 (Try.f145.body.getD .skip) = some A145 := by kernel_rfl
structure H145 (D : Den) (σ : Sig) (F : Nat) : Prop where
  mk ::
abbrev R145 (r : Bool) : (Nat → V) → Prop := RR Try.prog [.tmp 6] 0 false (Enc.enc (r : Bool))
section
variable {D : Den} {σ : Sig} {F : Nat} {r : Bool}
def s_l2Near_j1 (F : Nat) (x_2 : Int) (x_3 : Int) (x_1 : (Int × (List (Int × Int)))) (x_6 : Int) (c1 : Int → Option Bool) (x_10 : Bool) : Option Bool :=
  bif x_10 then
    some true
  else
    c1 (w64 (x_6 + 1))
theorem t_f145_j1 (H : H145 D σ F) (x_2 : Int) (x_3 : Int) (x_1 : (Int × (List (Int × Int)))) (x_6 : Int) (c1 : Int → Option Bool) (Hc1 : ∀ (x_6 : Int) (s : Nat → V), Facts [(1, (ji x_2)), (2, (ji x_3)), (3, (.ref (.bx 3) 0 [] (.agg [(ji x_1.1), (Enc.enc (x_1.2 : List (Int × Int)))]))), (6, (jb false)), (7, (ji x_6))] s → c1 x_6 = some r → Run D σ (R145 r) (.run A145_1 [.lp A145_1, .bk 0, .sq A145_7]) s) (x_10 : Bool) (s : Nat → V) (hs : Facts [(1, (ji x_2)), (2, (ji x_3)), (3, (.ref (.bx 3) 0 [] (.agg [(ji x_1.1), (Enc.enc (x_1.2 : List (Int × Int)))]))), (6, (jb false)), (7, (ji x_6)), (42, (jb x_10))] s) (h : s_l2Near_j1 F x_2 x_3 x_1 x_6 c1 x_10 = some r) : Run D σ (R145 r) (.nrm [.sq A145_5, .bk 1, .sq A145_6, .lp A145_1, .bk 0, .sq A145_7]) s := by
  unfold s_l2Near_j1 at h
  obtain ⟨h1, h2, h3, h6, h7, h42⟩ := hs
  refine .nsq (run_cond (t := x_10) h42 h (fun h => ?_) (fun h => ?_))
  · refine .seq (rg (g0 (jb true) fun h6 => ?_))
    refine gq (.nsq (.ret ?_))
    have hr := Option.some.inj h
    subst hr
    exact rrA (res_tmp h6) rfl
  refine .skip (.nbk (.nsq (rg (gm h7 fun h14 => g1 14 (ji (w64 (x_6 + 1))) h14 fun h15 => ?_))))
  refine gm h15 fun h7 => gq (.nlp ?_)
  exact Hc1 (w64 (x_6 + 1)) _ ⟨h1, h2, h3, h6, h7⟩ h
def s_l2Near_l1 (F : Nat) (x_2 : Int) (x_3 : Int) (x_1 : (Int × (List (Int × Int))))  : Nat → Int → Option Bool
  | 0, _ => none
  | k + 1, x_6 =>
    bif decide (x_6 < (x_1.2.length : Int)) then
      (idx x_1.2 x_6).bind fun e_9 =>
      bif (e_9.1 == x_2) then
        bif (e_9.2 == x_3) then
          s_l2Near_j1 F x_2 x_3 x_1 x_6 (s_l2Near_l1 F x_2 x_3 x_1 k) true
        else
          bif (e_9.1 == x_3) then
            s_l2Near_j1 F x_2 x_3 x_1 x_6 (s_l2Near_l1 F x_2 x_3 x_1 k) (e_9.2 == x_2)
          else
            s_l2Near_j1 F x_2 x_3 x_1 x_6 (s_l2Near_l1 F x_2 x_3 x_1 k) false
      else
        bif (e_9.1 == x_3) then
          s_l2Near_j1 F x_2 x_3 x_1 x_6 (s_l2Near_l1 F x_2 x_3 x_1 k) (e_9.2 == x_2)
        else
          s_l2Near_j1 F x_2 x_3 x_1 x_6 (s_l2Near_l1 F x_2 x_3 x_1 k) false
    else
      some false
theorem t_f145_l1 (H : H145 D σ F) (x_2 : Int) (x_3 : Int) (x_1 : (Int × (List (Int × Int))))  : ∀ (k : Nat) (x_6 : Int) (s : Nat → V), Facts [(1, (ji x_2)), (2, (ji x_3)), (3, (.ref (.bx 3) 0 [] (.agg [(ji x_1.1), (Enc.enc (x_1.2 : List (Int × Int)))]))), (6, (jb false)), (7, (ji x_6))] s → s_l2Near_l1 F x_2 x_3 x_1 k x_6 = some r → Run D σ (R145 r) (.run A145_1 [.lp A145_1, .bk 0, .sq A145_7]) s := by
  intro k
  induction k with
  | zero => intro x_6 s _ h; exact nomatch (h : (none : Option _) = some r)
  | succ k ih =>
    intro x_6 s hs h
    rw [s_l2Near_l1] at h
    obtain ⟨h1, h2, h3, h6, h7⟩ := hs
    refine .seq (.seq (rg (gm h7 fun h9 => g1 3 (.ref (.bx 3) 0 [1] (Enc.enc (x_1.2 : List (Int × Int)))) h3 fun h10 => ?_)))
    refine g1 10 (Enc.enc (x_1.2 : List (Int × Int))) h10 fun h11 => ?_
    refine gv (ji (x_1.2.length : Int)) (ev_len (xs := x_1.2) h11) fun h12 => ?_
    refine g2 9 12 (jb (decide (x_6 < (x_1.2.length : Int)))) h9 h12 fun h13 => ?_
    refine gq (.nsq (run_cond (t := decide (x_6 < (x_1.2.length : Int))) h13 h (fun h => ?_) (fun h => ?_)))
    · refine .skip (.nsq (.seq (.block (.seq (run_reg ?_)))))
      refine e_clr ?_
      refine ez [(1, _), (2, _), (3, _), (6, _), (7, _), (8, _)] ⟨(keep_clear (pk := [8]) h1 rfl mi), (keep_clear (pk := [8]) h2 rfl mi), (keep_clear (pk := [8]) h3 rfl (map_bx rfl (map_agg (maps_cons mi (maps_cons me maps_nil))))), (keep_clear (pk := [8]) h6 rfl mb), (keep_clear (pk := [8]) h7 rfl mi), (gone_clear (pk := [8]) (t := 8) rfl)⟩ ?_
      rintro s ⟨h1, h2, h3, h6, h7, h8⟩
      refine g1 3 (.ref (.bx 3) 0 [1] (Enc.enc (x_1.2 : List (Int × Int)))) h3 fun h16 => ?_
      refine g1 16 (Enc.enc (x_1.2 : List (Int × Int))) h16 fun h17 => ?_
      refine gm h7 fun h18 => ?_
      obtain ⟨e_9, E_e_9, h⟩ := bind_some h
      refine gv (.ref .sh 0 [] (.agg [(ji e_9.1), (ji e_9.2)])) (ev_idx (t := .sh) (lo := 0) (xs := x_1.2) h17 h18 E_e_9 rfl rfl) fun h19 => ?_
      refine g1 19 (.agg [(ji e_9.1), (ji e_9.2)]) h19 fun h20 => ?_
      refine g_alloc h8 ?_
      refine g_store (.agg [(ji e_9.1), (ji e_9.2)]) (rd_of rfl rfl) (rd_of h20 rfl) (by refine ⟨by decide, by decide, rfl, rfl, rfl, ?_⟩; first | rfl | simp [V.toks, V.tokss, Enc.toks_enc]) ?_
      refine gz [(1, (ji x_2)), (2, (ji x_3)), (3, (.ref (.bx 3) 0 [] (.agg [(ji x_1.1), (Enc.enc (x_1.2 : List (Int × Int)))]))), (6, (jb false)), (7, (ji x_6)), (8, (.ref (.bx 8) 0 [] (.agg [(ji e_9.1), (ji e_9.2)])))] ⟨(keep_mut h1 rfl), (keep_mut h2 rfl), (keep_mut h3 (mut_ref_ne rfl rfl (mut_agg (muts_cons rfl (muts_cons (Enc.mut_enc _ _ _ _ (x_1.2 : List (Int × Int))) rfl))))), (keep_mut h6 rfl), (keep_mut h7 rfl), (keep_mut rfl rfl)⟩ ?_
      rintro s ⟨h1, h2, h3, h6, h7, h8⟩
      refine .nsq (.seq (rg (g1 8 (.ref (.bx 8) 0 [0] (ji e_9.1)) h8 fun h21 => ?_)))
      refine g1 21 (ji e_9.1) h21 fun h22 => ?_
      refine gm h1 fun h23 => g2 22 23 (jb (e_9.1 == x_2)) h22 h23 fun h24 => ?_
      refine gm h24 fun h25 => split_on (c := (e_9.1 == x_2)) h (fun hg5 h => ?_) (fun hg5 h => ?_)
      · refine g_yes (h25.trans (congrArg V.bool hg5)) (g1 8 (.ref (.bx 8) 0 [1] (ji e_9.2)) h8 fun h26 => ?_)
        refine g_yes (h25.trans (congrArg V.bool hg5)) (g1 26 (ji e_9.2) h26 fun h27 => ?_)
        refine g_yes (h25.trans (congrArg V.bool hg5)) (gm h2 fun h28 => ?_)
        refine g_yes (h25.trans (congrArg V.bool hg5)) (g2 27 28 (jb (e_9.2 == x_3)) h27 h28 fun h29 => ?_)
        refine g2 25 29 (jb (e_9.2 == x_3)) (h25.trans (congrArg V.bool hg5)) h29 fun h30 => ?_
        refine gm h30 fun h31 => split_on (c := (e_9.2 == x_3)) h (fun hg11 h => ?_) (fun hg11 h => ?_)
        · refine g_no (h31.trans (congrArg V.bool hg11)) ?_
          refine g_no (h31.trans (congrArg V.bool hg11)) ?_
          refine g_no (h31.trans (congrArg V.bool hg11)) ?_
          refine g_no (h31.trans (congrArg V.bool hg11)) ?_
          refine g_no (h31.trans (congrArg V.bool hg11)) ?_
          refine g_skip rfl ?_
          refine g_skip rfl ?_
          refine g_skip rfl ?_
          refine g_skip rfl ?_
          refine g_no (h31.trans (congrArg V.bool hg11)) ?_
          refine g2 31 41 (jb true) (h31.trans (congrArg V.bool hg11)) (rfl : (_ : V) = (.tup [])) fun h42 => ?_
          refine gq ?_
          exact t_f145_j1 H x_2 x_3 x_1 x_6 (s_l2Near_l1 F x_2 x_3 x_1 k) ih true _ ⟨h1, h2, h3, h6, h7, h42⟩ h
        refine g_yes (h31.trans (congrArg V.bool hg11)) (g1 8 (.ref (.bx 8) 0 [0] (ji e_9.1)) h8 fun h32 => ?_)
        refine g_yes (h31.trans (congrArg V.bool hg11)) (g1 32 (ji e_9.1) h32 fun h33 => ?_)
        refine g_yes (h31.trans (congrArg V.bool hg11)) (gm h2 fun h34 => ?_)
        refine g_yes (h31.trans (congrArg V.bool hg11)) (g2 33 34 (jb (e_9.1 == x_3)) h33 h34 fun h35 => ?_)
        refine g_yes (h31.trans (congrArg V.bool hg11)) (gm h35 fun h36 => ?_)
        refine split_on (c := (e_9.1 == x_3)) h (fun hg16 h => ?_) (fun hg16 h => ?_)
        · refine g_yes (h36.trans (congrArg V.bool hg16)) (g1 8 (.ref (.bx 8) 0 [1] (ji e_9.2)) h8 fun h37 => ?_)
          refine g_yes (h36.trans (congrArg V.bool hg16)) (g1 37 (ji e_9.2) h37 fun h38 => ?_)
          refine g_yes (h36.trans (congrArg V.bool hg16)) (gm h1 fun h39 => ?_)
          refine g_yes (h36.trans (congrArg V.bool hg16)) (g2 38 39 (jb (e_9.2 == x_2)) h38 h39 fun h40 => ?_)
          refine g_yes (h31.trans (congrArg V.bool hg11)) (g2 36 40 (jb (e_9.2 == x_2)) (h36.trans (congrArg V.bool hg16)) h40 fun h41 => ?_)
          refine g2 31 41 (jb (e_9.2 == x_2)) (h31.trans (congrArg V.bool hg11)) h41 fun h42 => ?_
          refine gq ?_
          exact t_f145_j1 H x_2 x_3 x_1 x_6 (s_l2Near_l1 F x_2 x_3 x_1 k) ih (e_9.2 == x_2) _ ⟨h1, h2, h3, h6, h7, h42⟩ h
        refine g_no (h36.trans (congrArg V.bool hg16)) ?_
        refine g_no (h36.trans (congrArg V.bool hg16)) ?_
        refine g_no (h36.trans (congrArg V.bool hg16)) ?_
        refine g_no (h36.trans (congrArg V.bool hg16)) ?_
        refine g_yes (h31.trans (congrArg V.bool hg11)) (g2 36 40 (jb false) (h36.trans (congrArg V.bool hg16)) (rfl : (_ : V) = (.tup [])) fun h41 => ?_)
        refine g2 31 41 (jb false) (h31.trans (congrArg V.bool hg11)) h41 fun h42 => ?_
        refine gq ?_
        exact t_f145_j1 H x_2 x_3 x_1 x_6 (s_l2Near_l1 F x_2 x_3 x_1 k) ih false _ ⟨h1, h2, h3, h6, h7, h42⟩ h
      refine g_no (h25.trans (congrArg V.bool hg5)) ?_
      refine g_no (h25.trans (congrArg V.bool hg5)) ?_
      refine g_no (h25.trans (congrArg V.bool hg5)) ?_
      refine g_no (h25.trans (congrArg V.bool hg5)) ?_
      refine g2 25 29 (jb false) (h25.trans (congrArg V.bool hg5)) (rfl : (_ : V) = (.tup [])) fun h30 => ?_
      refine gm h30 fun h31 => g_yes h31 (g1 8 (.ref (.bx 8) 0 [0] (ji e_9.1)) h8 fun h32 => ?_)
      refine g_yes h31 (g1 32 (ji e_9.1) h32 fun h33 => ?_)
      refine g_yes h31 (gm h2 fun h34 => ?_)
      refine g_yes h31 (g2 33 34 (jb (e_9.1 == x_3)) h33 h34 fun h35 => ?_)
      refine g_yes h31 (gm h35 fun h36 => ?_)
      refine split_on (c := (e_9.1 == x_3)) h (fun hg16 h => ?_) (fun hg16 h => ?_)
      · refine g_yes (h36.trans (congrArg V.bool hg16)) (g1 8 (.ref (.bx 8) 0 [1] (ji e_9.2)) h8 fun h37 => ?_)
        refine g_yes (h36.trans (congrArg V.bool hg16)) (g1 37 (ji e_9.2) h37 fun h38 => ?_)
        refine g_yes (h36.trans (congrArg V.bool hg16)) (gm h1 fun h39 => ?_)
        refine g_yes (h36.trans (congrArg V.bool hg16)) (g2 38 39 (jb (e_9.2 == x_2)) h38 h39 fun h40 => ?_)
        refine g_yes h31 (g2 36 40 (jb (e_9.2 == x_2)) (h36.trans (congrArg V.bool hg16)) h40 fun h41 => ?_)
        refine g2 31 41 (jb (e_9.2 == x_2)) h31 h41 fun h42 => ?_
        refine gq ?_
        exact t_f145_j1 H x_2 x_3 x_1 x_6 (s_l2Near_l1 F x_2 x_3 x_1 k) ih (e_9.2 == x_2) _ ⟨h1, h2, h3, h6, h7, h42⟩ h
      refine g_no (h36.trans (congrArg V.bool hg16)) ?_
      refine g_no (h36.trans (congrArg V.bool hg16)) ?_
      refine g_no (h36.trans (congrArg V.bool hg16)) ?_
      refine g_no (h36.trans (congrArg V.bool hg16)) ?_
      refine g_yes h31 (g2 36 40 (jb false) (h36.trans (congrArg V.bool hg16)) (rfl : (_ : V) = (.tup [])) fun h41 => ?_)
      refine g2 31 41 (jb false) h31 h41 fun h42 => ?_
      refine gq ?_
      exact t_f145_j1 H x_2 x_3 x_1 x_6 (s_l2Near_l1 F x_2 x_3 x_1 k) ih false _ ⟨h1, h2, h3, h6, h7, h42⟩ h
    refine .exit (.esq (.elp (.ebk (.nsq (.seq (rg (g0 (jb false) fun h6 => ?_)))))))
    refine gq (.nsq (.ret ?_))
    have hr := Option.some.inj h
    subst hr
    exact rrA (res_tmp h6) rfl
def s_l2Near (F : Nat) (x_1 : (Int × (List (Int × Int)))) (x_2 : Int) (x_3 : Int) : Option Bool :=
  s_l2Near_l1 F x_2 x_3 x_1 F 0
theorem t145 (H : H145 D σ F) (x_1 : (Int × (List (Int × Int)))) (x_2 : Int) (x_3 : Int) (s : Nat → V) (hs : Facts [(0, (.agg [(ji x_1.1), (Enc.enc (x_1.2 : List (Int × Int)))])), (1, (ji x_2)), (2, (ji x_3))] s) (h : s_l2Near F x_1 x_2 x_3 = some r) : Run D σ (R145 r) (.run A145 []) s := by
  unfold s_l2Near at h
  obtain ⟨h0, h1, h2⟩ := hs
  refine .seq (run_reg ?_)
  refine e_clr ?_
  refine ez [(0, _), (1, _), (2, _), (3, _)] ⟨(keep_clear (pk := [3]) h0 rfl (map_agg (maps_cons mi (maps_cons me maps_nil)))), (keep_clear (pk := [3]) h1 rfl mi), (keep_clear (pk := [3]) h2 rfl mi), (gone_clear (pk := [3]) (t := 3) rfl)⟩ ?_
  rintro s ⟨h0, h1, h2, h3⟩
  refine g_box (.agg [(ji x_1.1), (Enc.enc (x_1.2 : List (Int × Int)))]) (rd_of h0 rfl) h3 rfl ?_
  refine g0 (jb false) fun h6 => ?_
  refine gq (.nsq (.seq (.seq (rg (g0 (ji 0) fun h7 => gq (.nsq (.block (.loop ?_))))))))
  exact t_f145_l1 H x_2 x_3 x_1 F 0 _ ⟨h1, h2, rfl, h6, h7⟩ h
end
def e145 (F : Nat) : Ent := ent 145 (fun (x : ((Int × (List (Int × Int))) × Int × Int × Unit)) => s_l2Near F x.1 x.2.1 x.2.2.1) (fun (r : Bool) => (Enc.enc (r : Bool))) 0 false []
theorem p145 {F : Nat} {x0 : (Int × (List (Int × Int)))} {x1 : Int} {x2 : Int} {r : Bool} (h : s_l2Near F x0 x1 x2 = some r) : (e145 F).den [Enc.enc x0, Enc.enc x1, Enc.enc x2] = some (Enc.enc (r : Bool)) := ent_put (x0, x1, x2, ()) h
theorem o145 {D : Den} {σ : Sig} {F : Nat} (hF : Fits2 Try.prog D σ) (H : H145 D σ F) : (e145 F).Ok Try.prog := by
  refine ok_of (f := 145) (show unk 145 = 145 from rfl) (fun args r h => ?_) ⟨Try.f145, Try.func145, rfl, rfl⟩
  obtain ⟨⟨x0, x1, x2, _⟩, y, rfl, hy, rfl⟩ := da_open h
  exact contract_run hF (by kernel_rfl) Try.func145 rfl c145 (show 3 ≤ Try.f145.ntmps by decide) (t145 H x0 x1 x2 _ ⟨rfl, rfl, rfl⟩ hy)
/- loop.example/g01109/spec.l1Put -/
def A146_1 : AC := (.cond (.t 31) (.seq (.reg [] [(jm 32 0), (jm 4 32)] []) .ret) .skip)
def A146_2 : AC := (.seq (.reg [.clr [33, 37, 39, 40, 44]] [(.mk (some 33) none true (.lit (.int .i64 (.ofNat 0)) 0 [])), (jm 34 0), (jm 35 5), ((jv 36 (.slice (.t 34) none (some (.t 35)) 1))), (.mk (some 37) none true (.appS .s (.t 33) (.t 36))), (jm 38 1), (.mk (some 39) none false (.lit (.int .i64 (.ofNat 0)) 1 [(0, 0, (.t 38))])), (.mk (some 40) none true (.appS .s (.t 37) (.t 39))), (jm 41 0), (jm 42 5), ((jv 43 (.slice (.t 41) (some (.t 42)) none 1))), (.mk (some 44) none false (.appS .s (.t 40) (.t 43))), (jm 4 44)] [.home 44 4]) .ret)
def A146_4 : AC := (.cond (.t 17) .skip (.exit 0))
def A146_5 : AC := (.block 1 (.reg [] [(jm 18 5), ((jv 19 (.bin .add (.t 18) (jn 1)))), (jm 5 19)] []))
def A146_3 : AC := (.seq (.seq (.reg [] [(jm 6 5), (jm 7 0), ((jv 8 (.len (.t 7)))), ((jv 9 (.bin .lss (.t 6) (.t 8)))), (jm 10 9), ((jg 11 10 true (.mov (.t 0)))), ((jg 12 10 true (.mov (.t 5)))), ((jg 13 10 true (.idx (.t 11) (.t 12) 1))), ((jg 14 10 true (.load .s (.t 13)))), ((jg 15 10 true (.mov (.t 1)))), ((jg 16 10 true (.bin .lss (.t 14) (.t 15)))), ((jv 17 (.pick (.t 10) (.t 16) (.k (.bool false)))))] []) A146_4) A146_5)
def A146_6 : AC := (.seq (.seq (.reg [] [(jm 20 5), (jm 21 0), ((jv 22 (.len (.t 21)))), ((jv 23 (.bin .lss (.t 20) (.t 22)))), (jm 24 23), ((jg 25 24 true (.mov (.t 0)))), ((jg 26 24 true (.mov (.t 5)))), ((jg 27 24 true (.idx (.t 25) (.t 26) 1))), ((jg 28 24 true (.load .s (.t 27)))), ((jg 29 24 true (.mov (.t 1)))), ((jg 30 24 true (.bin .eql (.t 28) (.t 29)))), ((jv 31 (.pick (.t 24) (.t 30) (.k (.bool false)))))] []) A146_1) A146_2)
def A146_8 : AC := (.seq (.block 0 (.loop A146_3)) A146_6)
def A146_7 : AC := (.seq (.reg [] [((jv 5 (.mov (jn 0))))] []) A146_8)
def A146 : AC := (.seq (.reg [] [((jv 4 (.mov (.k (.sl .nl .s 0 [])))))] []) A146_7)
def an146 : List An := [{ id := 6, pre := [.clr [33, 37, 39, 40, 44]], ep := [.home 44 4], lin := [0, 4, 7], sp := [4, 7, 11] }]
theorem c146 : cC Try.prog Try.f146.ntmps an146 (Try.f146.body.getD .skip) = some A146 := by kernel_rfl
structure H146 (D : Den) (σ : Sig) (F : Nat) : Prop where
  mk ::
abbrev R146 (r : (List Int)) : (Nat → V) → Prop := RR Try.prog [.tmp 4] 0 true (Enc.enc (r : (List Int)))
section
variable {D : Den} {σ : Sig} {F : Nat} {r : (List Int)}
def s_l1Put_j1 (F : Nat) (x_1 : (List Int)) (x_2 : Int) (x_6 : Int)  (x_13 : Bool) : Option (List Int) :=
  bif x_13 then
    some x_1
  else
    (sub x_1 0 x_6).bind fun sub_14 =>
    (appL [] sub_14).bind fun ap_15 =>
    (appL ap_15 [x_2]).bind fun ap_16 =>
    (sub x_1 x_6 (x_1.length : Int)).bind fun sub_17 =>
    (appL ap_16 sub_17).bind fun ap_18 =>
    some ap_18
theorem t_f146_j1 (H : H146 D σ F) (x_1 : (List Int)) (x_2 : Int) (x_6 : Int)  (x_13 : Bool) (s : Nat → V) (hs : Facts [(0, (eL x_1)), (1, (ji x_2)), (4, (.sl .nl (Enc.shp Int) 0 [])), (5, (ji x_6)), (31, (jb x_13))] s) (h : s_l1Put_j1 F x_1 x_2 x_6  x_13 = some r) : Run D σ (R146 r) (.nrm [.sq A146_1, .sq A146_2]) s := by
  unfold s_l1Put_j1 at h
  obtain ⟨h0, h1, h4, h5, h31⟩ := hs
  refine .nsq (run_cond (t := x_13) h31 h (fun h => ?_) (fun h => ?_))
  · refine .seq (rg (gm h0 fun h32 => gm h32 fun h4 => gq (.nsq (.ret ?_))))
    have hr := Option.some.inj h
    subst hr
    exact rrA (res_tmp h4) (fin_ret1 (fin_enc (x := (x_1 : (List Int)))))
  refine .skip (.nsq (.seq (run_reg ?_)))
  refine e_clr ?_
  refine ez [(0, _), (1, _), (4, _), (5, _), (33, _), (37, _), (39, _), (40, _), (44, _)] ⟨(keep_clear (pk := [33, 37, 39, 40, 44]) h0 rfl me), (keep_clear (pk := [33, 37, 39, 40, 44]) h1 rfl mi), (keep_clear (pk := [33, 37, 39, 40, 44]) h4 rfl rfl), (keep_clear (pk := [33, 37, 39, 40, 44]) h5 rfl mi), (gone_clear (pk := [33, 37, 39, 40, 44]) (t := 33) rfl), (gone_clear (pk := [33, 37, 39, 40, 44]) (t := 37) rfl), (gone_clear (pk := [33, 37, 39, 40, 44]) (t := 39) rfl), (gone_clear (pk := [33, 37, 39, 40, 44]) (t := 40) rfl), (gone_clear (pk := [33, 37, 39, 40, 44]) (t := 44) rfl)⟩ ?_
  rintro s ⟨h0, h1, h4, h5, h33, h37, h39, h40, h44⟩
  refine g_litLl [] [] trivial rfl rfl h33 ?_
  refine gm h0 fun h34 => gm h5 fun h35 => ?_
  obtain ⟨sub_14, E_sub_14, h⟩ := bind_some h
  refine gv (eL sub_14) (ev_slice (xs := x_1) h34 (optI_none) (optI_some h35) E_sub_14 rfl) fun h36 => ?_
  obtain ⟨ap_15, E_ap_15, h⟩ := bind_some h
  refine g_appS (p := []) (xs := []) (ys := (sub_14 : List Int)) (t2 := .sh) (lo2 := 0) rfl h36 rfl h37 rfl E_ap_15 ?_
  refine gm h1 fun h38 => g_litL [(38, (ji x_2))] [Enc.enc (x_2 : Int)] h38 rfl rfl h39 ?_
  obtain ⟨ap_16, E_ap_16, h⟩ := bind_some h
  refine g_appS (p := []) (xs := ap_15) (ys := ([x_2] : List Int)) (t2 := (.at 39 [])) (lo2 := 0) rfl rfl rfl h40 rfl E_ap_16 ?_
  refine gm h0 fun h41 => gm h5 fun h42 => ?_
  obtain ⟨sub_17, E_sub_17, h⟩ := bind_some h
  refine gv (eL sub_17) (ev_slice (xs := x_1) h41 (optI_some h42) (optI_none) E_sub_17 rfl) fun h43 => ?_
  obtain ⟨ap_18, E_ap_18, h⟩ := bind_some h
  refine g_appS (p := []) (xs := ap_16) (ys := (sub_17 : List Int)) (t2 := .sh) (lo2 := 0) rfl h43 rfl h44 rfl E_ap_18 ?_
  refine gm (rfl : (_ : V) = (oI 44 [] (.of ap_18))) fun h4 => ?_
  refine g_end ?_
  refine e_home (r := 44) (x := 4) (v := _) h4 rfl (fun s_2 hg_2 => ?_)
  refine ez [(4, (oI 4 [] (.of ap_18)))] (hg_2 4 _ _ h4 (map_encO (r := 44) (p := []) rfl rfl)) ?_
  rintro s h4
  refine .nsq (.ret ?_)
  have hr := Option.some.inj h
  subst hr
  exact rrA (res_tmp h4) (fin_ret1 (fin_own (o := .of ap_18)))
def s_l1Put_j2 (F : Nat) (x_1 : (List Int)) (x_2 : Int) (x_6 : Int) (c1 : Int → Option (List Int)) (x_11 : Bool) : Option (List Int) :=
  bif x_11 then
    c1 (w64 (x_6 + 1))
  else
    bif decide (x_6 < (x_1.length : Int)) then
      (idx x_1 x_6).bind fun e_19 =>
      s_l1Put_j1 F x_1 x_2 x_6 (e_19 == x_2)
    else
      s_l1Put_j1 F x_1 x_2 x_6 false
theorem t_f146_j2 (H : H146 D σ F) (x_1 : (List Int)) (x_2 : Int) (x_6 : Int) (c1 : Int → Option (List Int)) (Hc1 : ∀ (x_6 : Int) (s : Nat → V), Facts [(0, (eL x_1)), (1, (ji x_2)), (4, (.sl .nl (Enc.shp Int) 0 [])), (5, (ji x_6))] s → c1 x_6 = some r → Run D σ (R146 r) (.run A146_3 [.lp A146_3, .bk 0, .sq A146_6]) s) (x_11 : Bool) (s : Nat → V) (hs : Facts [(0, (eL x_1)), (1, (ji x_2)), (4, (.sl .nl (Enc.shp Int) 0 [])), (5, (ji x_6)), (17, (jb x_11))] s) (h : s_l1Put_j2 F x_1 x_2 x_6 c1 x_11 = some r) : Run D σ (R146 r) (.nrm [.sq A146_4, .sq A146_5, .lp A146_3, .bk 0, .sq A146_6]) s := by
  unfold s_l1Put_j2 at h
  obtain ⟨h0, h1, h4, h5, h17⟩ := hs
  refine .nsq (run_cond (t := x_11) h17 h (fun h => ?_) (fun h => ?_))
  · refine .skip (.nsq (.block (rg (gm h5 fun h18 => g1 18 (ji (w64 (x_6 + 1))) h18 fun h19 => ?_))))
    refine gm h19 fun h5 => gq (.nbk (.nlp ?_))
    exact Hc1 (w64 (x_6 + 1)) _ ⟨h0, h1, h4, h5⟩ h
  refine .exit (.esq (.elp (.ebk (.nsq (.seq (.seq (rg (gm h5 fun h20 => gm h0 fun h21 => gv (ji (x_1.length : Int)) (ev_len (xs := x_1) h21) fun h22 => ?_))))))))
  refine g2 20 22 (jb (decide (x_6 < (x_1.length : Int)))) h20 h22 fun h23 => ?_
  refine gm h23 fun h24 => split_on (c := decide (x_6 < (x_1.length : Int))) h (fun hg5 h => ?_) (fun hg5 h => ?_)
  · refine g_yes (h24.trans (congrArg V.bool hg5)) (gm h0 fun h25 => ?_)
    refine g_yes (h24.trans (congrArg V.bool hg5)) (gm h5 fun h26 => ?_)
    obtain ⟨e_19, E_e_19, h⟩ := bind_some h
    refine g_yes (h24.trans (congrArg V.bool hg5)) (gv (.ref .sh 0 [] (ji e_19)) (ev_idx (t := .sh) (lo := 0) (xs := x_1) h25 h26 E_e_19 rfl rfl) fun h27 => ?_)
    refine g_yes (h24.trans (congrArg V.bool hg5)) (g1 27 (ji e_19) h27 fun h28 => ?_)
    refine g_yes (h24.trans (congrArg V.bool hg5)) (gm h1 fun h29 => ?_)
    refine g_yes (h24.trans (congrArg V.bool hg5)) (g2 28 29 (jb (e_19 == x_2)) h28 h29 fun h30 => ?_)
    refine g2 24 30 (jb (e_19 == x_2)) (h24.trans (congrArg V.bool hg5)) h30 fun h31 => ?_
    refine gq ?_
    exact t_f146_j1 H x_1 x_2 x_6 (e_19 == x_2) _ ⟨h0, h1, h4, h5, h31⟩ h
  refine g_no (h24.trans (congrArg V.bool hg5)) ?_
  refine g_no (h24.trans (congrArg V.bool hg5)) ?_
  refine g_no (h24.trans (congrArg V.bool hg5)) ?_
  refine g_no (h24.trans (congrArg V.bool hg5)) ?_
  refine g_no (h24.trans (congrArg V.bool hg5)) ?_
  refine g_no (h24.trans (congrArg V.bool hg5)) ?_
  refine g2 24 30 (jb false) (h24.trans (congrArg V.bool hg5)) (rfl : (_ : V) = (.tup [])) fun h31 => ?_
  refine gq ?_
  exact t_f146_j1 H x_1 x_2 x_6 false _ ⟨h0, h1, h4, h5, h31⟩ h
def s_l1Put_l1 (F : Nat) (x_1 : (List Int)) (x_2 : Int)  : Nat → Int → Option (List Int)
  | 0, _ => none
  | k + 1, x_6 =>
    bif decide (x_6 < (x_1.length : Int)) then
      (idx x_1 x_6).bind fun e_20 =>
      s_l1Put_j2 F x_1 x_2 x_6 (s_l1Put_l1 F x_1 x_2 k) (decide (e_20 < x_2))
    else
      s_l1Put_j2 F x_1 x_2 x_6 (s_l1Put_l1 F x_1 x_2 k) false
theorem t_f146_l1 (H : H146 D σ F) (x_1 : (List Int)) (x_2 : Int)  : ∀ (k : Nat) (x_6 : Int) (s : Nat → V), Facts [(0, (eL x_1)), (1, (ji x_2)), (4, (.sl .nl (Enc.shp Int) 0 [])), (5, (ji x_6))] s → s_l1Put_l1 F x_1 x_2 k x_6 = some r → Run D σ (R146 r) (.run A146_3 [.lp A146_3, .bk 0, .sq A146_6]) s := by
  intro k
  induction k with
  | zero => intro x_6 s _ h; exact nomatch (h : (none : Option _) = some r)
  | succ k ih =>
    intro x_6 s hs h
    rw [s_l1Put_l1] at h
    obtain ⟨h0, h1, h4, h5⟩ := hs
    refine .seq (.seq (rg (gm h5 fun h6 => gm h0 fun h7 => gv (ji (x_1.length : Int)) (ev_len (xs := x_1) h7) fun h8 => ?_)))
    refine g2 6 8 (jb (decide (x_6 < (x_1.length : Int)))) h6 h8 fun h9 => ?_
    refine gm h9 fun h10 => split_on (c := decide (x_6 < (x_1.length : Int))) h (fun hg5 h => ?_) (fun hg5 h => ?_)
    · refine g_yes (h10.trans (congrArg V.bool hg5)) (gm h0 fun h11 => ?_)
      refine g_yes (h10.trans (congrArg V.bool hg5)) (gm h5 fun h12 => ?_)
      obtain ⟨e_20, E_e_20, h⟩ := bind_some h
      refine g_yes (h10.trans (congrArg V.bool hg5)) (gv (.ref .sh 0 [] (ji e_20)) (ev_idx (t := .sh) (lo := 0) (xs := x_1) h11 h12 E_e_20 rfl rfl) fun h13 => ?_)
      refine g_yes (h10.trans (congrArg V.bool hg5)) (g1 13 (ji e_20) h13 fun h14 => ?_)
      refine g_yes (h10.trans (congrArg V.bool hg5)) (gm h1 fun h15 => ?_)
      refine g_yes (h10.trans (congrArg V.bool hg5)) (g2 14 15 (jb (decide (e_20 < x_2))) h14 h15 fun h16 => ?_)
      refine g2 10 16 (jb (decide (e_20 < x_2))) (h10.trans (congrArg V.bool hg5)) h16 fun h17 => ?_
      refine gq ?_
      exact t_f146_j2 H x_1 x_2 x_6 (s_l1Put_l1 F x_1 x_2 k) ih (decide (e_20 < x_2)) _ ⟨h0, h1, h4, h5, h17⟩ h
    refine g_no (h10.trans (congrArg V.bool hg5)) ?_
    refine g_no (h10.trans (congrArg V.bool hg5)) ?_
    refine g_no (h10.trans (congrArg V.bool hg5)) ?_
    refine g_no (h10.trans (congrArg V.bool hg5)) ?_
    refine g_no (h10.trans (congrArg V.bool hg5)) ?_
    refine g_no (h10.trans (congrArg V.bool hg5)) ?_
    refine g2 10 16 (jb false) (h10.trans (congrArg V.bool hg5)) (rfl : (_ : V) = (.tup [])) fun h17 => ?_
    refine gq ?_
    exact t_f146_j2 H x_1 x_2 x_6 (s_l1Put_l1 F x_1 x_2 k) ih false _ ⟨h0, h1, h4, h5, h17⟩ h
def s_l1Put (F : Nat) (x_1 : (List Int)) (x_2 : Int) : Option (List Int) :=
  s_l1Put_l1 F x_1 x_2 F 0
theorem t146 (H : H146 D σ F) (x_1 : (List Int)) (x_2 : Int) (s : Nat → V) (hs : Facts [(0, (eL x_1)), (1, (ji x_2))] s) (h : s_l1Put F x_1 x_2 = some r) : Run D σ (R146 r) (.run A146 []) s := by
  unfold s_l1Put at h
  obtain ⟨h0, h1⟩ := hs
  refine .seq (rg (g0 (.sl .nl (Enc.shp Int) 0 []) fun h4 => ?_))
  refine gq (.nsq (.seq (rg (g0 (ji 0) fun h5 => gq (.nsq (.seq (.block (.loop ?_))))))))
  exact t_f146_l1 H x_1 x_2 F 0 _ ⟨h0, h1, h4, h5⟩ h
end
def e146 (F : Nat) : Ent := ent 146 (fun (x : ((List Int) × Int × Unit)) => s_l1Put F x.1 x.2.1) (fun (r : (List Int)) => (Enc.enc (r : (List Int)))) 0 true []
theorem p146 {F : Nat} {x0 : (List Int)} {x1 : Int} {r : (List Int)} (h : s_l1Put F x0 x1 = some r) : (e146 F).den [Enc.enc x0, Enc.enc x1] = some (Enc.enc (r : (List Int))) := ent_put (x0, x1, ()) h
theorem o146 {D : Den} {σ : Sig} {F : Nat} (hF : Fits2 Try.prog D σ) (H : H146 D σ F) : (e146 F).Ok Try.prog := by
  refine ok_of (f := 146) (show unk 146 = 146 from rfl) (fun args r h => ?_) ⟨Try.f146, Try.func146, rfl, rfl⟩
  obtain ⟨⟨x0, x1, _⟩, y, rfl, hy, rfl⟩ := da_open h
  exact contract_run hF (by kernel_rfl) Try.func146 rfl c146 (show 2 ≤ Try.f146.ntmps by decide) (t146 H x0 x1 _ ⟨rfl, rfl⟩ hy)
/- loop.example/g01109/spec.l6BagsOf -/
def A82_2 : AC := (.cond (.t 14) .skip (.exit 0))
def A82_7 : AC := (.cond (.t 24) .skip (.exit 2))
def A82_11 : AC := (.cond (.t 31) .skip (.exit 4))
def A82_13 : AC := (.cond (.t 43) (.reg [.frz 7] [(jm 44 7), (jm 45 1), (jm 46 8), ((jv 47 (.idx (.t 45) (.t 46) 1))), ((jv 48 (.load .s (.t 47)))), (.mk (some 49) none false (.call (.k (.fn 146 [] [])) [(.t 44), (.t 48)])), (jm 7 49)] []) .skip)
def A82_14 : AC := (.reg [] [(jm 32 9), ((jv 33 (.bin .add (.t 32) (jn 1)))), (jm 9 33)] [])
def A82_12 : AC := (.seq (.block 5 (.seq (.reg [] [((jv 34 (.load (.ag [.s, .p]) (.t 2)))), (jm 35 1), (jm 36 8), ((jv 37 (.idx (.t 35) (.t 36) 1))), ((jv 38 (.load .s (.t 37)))), (jm 39 1), (jm 40 9), ((jv 41 (.idx (.t 39) (.t 40) 1))), ((jv 42 (.load .s (.t 41)))), (.mk (some 43) none false (.call (.k (.fn 145 [] [])) [(.t 34), (.t 38), (.t 42)]))] []) A82_13)) A82_14)
def A82_10 : AC := (.seq (.seq (.reg [] [(jm 28 9), (jm 29 1), ((jv 30 (.len (.t 29)))), ((jv 31 (.bin .lss (.t 28) (.t 30))))] []) A82_11) A82_12)
def A82_9 : AC := (.block 4 (.loop A82_10))
def A82_15 : AC := (.reg [] [(jm 25 8), ((jv 26 (.bin .add (.t 25) (jn 1)))), (jm 8 26)] [])
def A82_8 : AC := (.seq (.block 3 (.seq (.reg [] [(jm 27 6), (jm 9 27)] []) A82_9)) A82_15)
def A82_6 : AC := (.seq (.seq (.reg [] [(jm 22 8), (jm 23 6), ((jv 24 (.bin .lss (.t 22) (.t 23))))] []) A82_7) A82_8)
def A82_5 : AC := (.block 2 (.loop A82_6))
def A82_16 : AC := (.reg [.clr [52, 53]] [(jm 50 5), (jm 51 7), (.mk (some 52) none false (.lit (.sl .nl .s 0 []) 1 [(0, 0, (.t 51))])), (.mk (some 53) none false (.app .p (.t 50) (.t 52))), (jm 5 53)] [.home 53 5])
def A82_4 : AC := (.seq (.seq (.reg [] [((jv 8 (.mov (jn 0))))] []) A82_5) A82_16)
def A82_17 : AC := (.reg [] [(jm 15 6), ((jv 16 (.bin .add (.t 15) (jn 1)))), (jm 6 16)] [])
def A82_3 : AC := (.seq (.block 1 (.seq (.reg [.clr [21]] [(jm 17 1), (jm 18 6), ((jv 19 (.idx (.t 17) (.t 18) 1))), ((jv 20 (.load .s (.t 19)))), (.mk (some 21) none false (.lit (.int .i64 (.ofNat 0)) 1 [(0, 0, (.t 20))])), (jm 7 21)] [.home 21 7, .frz 7]) A82_4)) A82_17)
def A82_1 : AC := (.seq (.seq (.reg [] [(jm 11 6), (jm 12 1), ((jv 13 (.len (.t 12)))), ((jv 14 (.bin .lss (.t 11) (.t 13))))] []) A82_2) A82_3)
def A82_18 : AC := (.seq (.reg [] [(jm 54 5), (jm 4 54)] [.home 5 4]) .ret)
def A82_21 : AC := (.block 0 (.loop A82_1))
def A82_20 : AC := (.seq (.seq (.reg [] [((jv 6 (.mov (jn 0))))] []) A82_21) A82_18)
def A82_19 : AC := (.seq (.reg [.clr [10]] [(.mk (some 10) none false (.lit (.sl .nl .s 0 []) 0 [])), (jm 5 10)] [.home 10 5]) A82_20)
def A82 : AC := (.seq (.reg [.clr [2]] [(.mk (some 2) none false (.box (.t 0))), ((jv 4 (.mov (.k (.sl .nl .p 0 [])))))] []) A82_19)
def an82 : List An := [{ id := 0, pre := [.clr [2]], ep := [], lin := [], sp := [] }, { id := 1, pre := [.clr [10]], ep := [.home 10 5], lin := [], sp := [] }, { id := 5, pre := [.clr [21]], ep := [.home 21 7, .frz 7], lin := [], sp := [] }, { id := 13, pre := [.frz 7], ep := [], lin := [], sp := [] }, { id := 14, pre := [.clr [52, 53]], ep := [.home 53 5], lin := [], sp := [] }, { id := 15, pre := [], ep := [.home 5 4], lin := [], sp := [] }]
theorem c82 : cC Try.prog Try.f82.ntmps an82 (Try.f82.body.getD .skip) = some A82 := by kernel_rfl
structure H82 (D : Den) (σ : Sig) (F : Nat) : Prop where
  c145 : ∀ (x0 : (Int × (List (Int × Int)))) (x1 : Int) (x2 : Int) r, s_l2Near F x0 x1 x2 = some r → D 145 [Enc.enc x0, Enc.enc x1, Enc.enc x2] = some (Enc.enc (r : Bool))
  g145 : σ 145 = some (0, false)
  c146 : ∀ (x0 : (List Int)) (x1 : Int) r, s_l1Put F x0 x1 = some r → D 146 [Enc.enc x0, Enc.enc x1] = some (Enc.enc (r : (List Int)))
  g146 : σ 146 = some (0, true)
abbrev R82 (r : (List (List Int))) : (Nat → V) → Prop := RR Try.prog [.tmp 4] 0 true (Enc.enc (r : (List (List Int))))
section
variable {D : Den} {σ : Sig} {F : Nat} {r : (List (List Int))}
def s_l6BagsOf_j1 (F : Nat) (x_2 : (List Int)) (x_1 : (Int × (List (Int × Int)))) (x_85 : (List (List Int))) (x_86 : Int) (x_197 : Int) (x_233 : Int) (c1 : (List (List Int)) → Int → Option (List (List Int))) (c10 : (List Int) → Int → Option (List (List Int))) (c13 : (List Int) → Int → Option (List (List Int))) (x_247 : (List Int)) : Option (List (List Int)) :=
  c13 x_247 (w64 (x_233 + 1))
theorem t_f82_j1 (H : H82 D σ F) (x_2 : (List Int)) (x_1 : (Int × (List (Int × Int)))) (x_85 : (List (List Int))) (x_86 : Int) (x_197 : Int) (x_233 : Int) (c1 : (List (List Int)) → Int → Option (List (List Int))) (Hc1 : ∀ (x_85 : (List (List Int))) (x_86 : Int) (s : Nat → V), Facts [(1, (eL x_2)), (2, (.ref (.bx 2) 0 [] (.agg [(ji x_1.1), (Enc.enc (x_1.2 : List (Int × Int)))]))), (4, (.sl .nl (Enc.shp (List Int)) 0 [])), (5, (encO (.at 5 []) (.of (x_85 : List (List Int))))), (6, (ji x_86))] s → c1 x_85 x_86 = some r → Run D σ (R82 r) (.run A82_1 [.lp A82_1, .bk 0, .sq A82_18]) s) (c10 : (List Int) → Int → Option (List (List Int))) (Hc10 : ∀ (x_196 : (List Int)) (x_197 : Int) (s : Nat → V), Facts [(1, (eL x_2)), (2, (.ref (.bx 2) 0 [] (.agg [(ji x_1.1), (Enc.enc (x_1.2 : List (Int × Int)))]))), (4, (.sl .nl (Enc.shp (List Int)) 0 [])), (5, (encO (.at 5 []) (.of (x_85 : List (List Int))))), (6, (ji x_86)), (7, (eL x_196)), (8, (ji x_197))] s → c10 x_196 x_197 = some r → Run D σ (R82 r) (.run A82_6 [.lp A82_6, .bk 2, .sq A82_16, .bk 1, .sq A82_17, .lp A82_1, .bk 0, .sq A82_18]) s) (c13 : (List Int) → Int → Option (List (List Int))) (Hc13 : ∀ (x_232 : (List Int)) (x_233 : Int) (s : Nat → V), Facts [(1, (eL x_2)), (2, (.ref (.bx 2) 0 [] (.agg [(ji x_1.1), (Enc.enc (x_1.2 : List (Int × Int)))]))), (4, (.sl .nl (Enc.shp (List Int)) 0 [])), (5, (encO (.at 5 []) (.of (x_85 : List (List Int))))), (6, (ji x_86)), (7, (eL x_232)), (8, (ji x_197)), (9, (ji x_233))] s → c13 x_232 x_233 = some r → Run D σ (R82 r) (.run A82_10 [.lp A82_10, .bk 4, .bk 3, .sq A82_15, .lp A82_6, .bk 2, .sq A82_16, .bk 1, .sq A82_17, .lp A82_1, .bk 0, .sq A82_18]) s) (x_247 : (List Int)) (s : Nat → V) (hs : Facts [(1, (eL x_2)), (2, (.ref (.bx 2) 0 [] (.agg [(ji x_1.1), (Enc.enc (x_1.2 : List (Int × Int)))]))), (4, (.sl .nl (Enc.shp (List Int)) 0 [])), (5, (encO (.at 5 []) (.of (x_85 : List (List Int))))), (6, (ji x_86)), (7, (eL x_247)), (8, (ji x_197)), (9, (ji x_233))] s) (h : s_l6BagsOf_j1 F x_2 x_1 x_85 x_86 x_197 x_233 c1 c10 c13 x_247 = some r) : Run D σ (R82 r) (.nrm [.bk 5, .sq A82_14, .lp A82_10, .bk 4, .bk 3, .sq A82_15, .lp A82_6, .bk 2, .sq A82_16, .bk 1, .sq A82_17, .lp A82_1, .bk 0, .sq A82_18]) s := by
  unfold s_l6BagsOf_j1 at h
  obtain ⟨h1, h2, h4, h5, h6, h7, h8, h9⟩ := hs
  refine .nbk (.nsq (rg (gm h9 fun h32 => g1 32 (ji (w64 (x_233 + 1))) h32 fun h33 => ?_)))
  refine gm h33 fun h9 => gq (.nlp ?_)
  exact Hc13 x_247 (w64 (x_233 + 1)) _ ⟨h1, h2, h4, h5, h6, h7, h8, h9⟩ h
def s_l6BagsOf_l1 (F : Nat) (x_2 : (List Int)) (x_1 : (Int × (List (Int × Int)))) (x_85 : (List (List Int))) (x_86 : Int) (x_197 : Int) (c1 : (List (List Int)) → Int → Option (List (List Int))) (c10 : (List Int) → Int → Option (List (List Int))) : Nat → (List Int) → Int → Option (List (List Int))
  | 0, _, _ => none
  | k + 1, x_232, x_233 =>
    bif decide (x_233 < (x_2.length : Int)) then
      (idx x_2 x_197).bind fun e_242 =>
      (idx x_2 x_233).bind fun e_243 =>
      (s_l2Near F x_1 e_242 e_243).bind fun r_244 =>
      bif r_244 then
        (idx x_2 x_197).bind fun e_248 =>
        (s_l1Put F x_232 e_248).bind fun r_249 =>
        s_l6BagsOf_j1 F x_2 x_1 x_85 x_86 x_197 x_233 c1 c10 (s_l6BagsOf_l1 F x_2 x_1 x_85 x_86 x_197 c1 c10 k) r_249
      else
        s_l6BagsOf_j1 F x_2 x_1 x_85 x_86 x_197 x_233 c1 c10 (s_l6BagsOf_l1 F x_2 x_1 x_85 x_86 x_197 c1 c10 k) x_232
    else
      c10 x_232 (w64 (x_197 + 1))
theorem t_f82_l1 (H : H82 D σ F) (x_2 : (List Int)) (x_1 : (Int × (List (Int × Int)))) (x_85 : (List (List Int))) (x_86 : Int) (x_197 : Int) (c1 : (List (List Int)) → Int → Option (List (List Int))) (Hc1 : ∀ (x_85 : (List (List Int))) (x_86 : Int) (s : Nat → V), Facts [(1, (eL x_2)), (2, (.ref (.bx 2) 0 [] (.agg [(ji x_1.1), (Enc.enc (x_1.2 : List (Int × Int)))]))), (4, (.sl .nl (Enc.shp (List Int)) 0 [])), (5, (encO (.at 5 []) (.of (x_85 : List (List Int))))), (6, (ji x_86))] s → c1 x_85 x_86 = some r → Run D σ (R82 r) (.run A82_1 [.lp A82_1, .bk 0, .sq A82_18]) s) (c10 : (List Int) → Int → Option (List (List Int))) (Hc10 : ∀ (x_196 : (List Int)) (x_197 : Int) (s : Nat → V), Facts [(1, (eL x_2)), (2, (.ref (.bx 2) 0 [] (.agg [(ji x_1.1), (Enc.enc (x_1.2 : List (Int × Int)))]))), (4, (.sl .nl (Enc.shp (List Int)) 0 [])), (5, (encO (.at 5 []) (.of (x_85 : List (List Int))))), (6, (ji x_86)), (7, (eL x_196)), (8, (ji x_197))] s → c10 x_196 x_197 = some r → Run D σ (R82 r) (.run A82_6 [.lp A82_6, .bk 2, .sq A82_16, .bk 1, .sq A82_17, .lp A82_1, .bk 0, .sq A82_18]) s) : ∀ (k : Nat) (x_232 : (List Int)) (x_233 : Int) (s : Nat → V), Facts [(1, (eL x_2)), (2, (.ref (.bx 2) 0 [] (.agg [(ji x_1.1), (Enc.enc (x_1.2 : List (Int × Int)))]))), (4, (.sl .nl (Enc.shp (List Int)) 0 [])), (5, (encO (.at 5 []) (.of (x_85 : List (List Int))))), (6, (ji x_86)), (7, (eL x_232)), (8, (ji x_197)), (9, (ji x_233))] s → s_l6BagsOf_l1 F x_2 x_1 x_85 x_86 x_197 c1 c10 k x_232 x_233 = some r → Run D σ (R82 r) (.run A82_10 [.lp A82_10, .bk 4, .bk 3, .sq A82_15, .lp A82_6, .bk 2, .sq A82_16, .bk 1, .sq A82_17, .lp A82_1, .bk 0, .sq A82_18]) s := by
  intro k
  induction k with
  | zero => intro x_232 x_233 s _ h; exact nomatch (h : (none : Option _) = some r)
  | succ k ih =>
    intro x_232 x_233 s hs h
    rw [s_l6BagsOf_l1] at h
    obtain ⟨h1, h2, h4, h5, h6, h7, h8, h9⟩ := hs
    refine .seq (.seq (rg (gm h9 fun h28 => gm h1 fun h29 => gv (ji (x_2.length : Int)) (ev_len (xs := x_2) h29) fun h30 => ?_)))
    refine g2 28 30 (jb (decide (x_233 < (x_2.length : Int)))) h28 h30 fun h31 => ?_
    refine gq (.nsq (run_cond (t := decide (x_233 < (x_2.length : Int))) h31 h (fun h => ?_) (fun h => ?_)))
    · refine .skip (.nsq (.seq (.block (.seq (rg (g1 2 (.agg [(ji x_1.1), (Enc.enc (x_1.2 : List (Int × Int)))]) h2 fun h34 => ?_))))))
      refine gm h1 fun h35 => gm h8 fun h36 => ?_
      obtain ⟨e_242, E_e_242, h⟩ := bind_some h
      refine gv (.ref .sh 0 [] (ji e_242)) (ev_idx (t := .sh) (lo := 0) (xs := x_2) h35 h36 E_e_242 rfl rfl) fun h37 => ?_
      refine g1 37 (ji e_242) h37 fun h38 => ?_
      refine gm h1 fun h39 => gm h9 fun h40 => ?_
      obtain ⟨e_243, E_e_243, h⟩ := bind_some h
      refine gv (.ref .sh 0 [] (ji e_243)) (ev_idx (t := .sh) (lo := 0) (xs := x_2) h39 h40 E_e_243 rfl rfl) fun h41 => ?_
      refine g1 41 (ji e_243) h41 fun h42 => ?_
      obtain ⟨r_244, E_r_244, h⟩ := bind_some h
      refine g_call (m := 0) (al := false) (r := (Enc.enc (r_244 : Bool))) [Enc.enc (x_1 : (Int × (List (Int × Int)))), Enc.enc (e_242 : Int), Enc.enc (e_243 : Int)] (ta_cons (v := (.agg [(ji x_1.1), (Enc.enc (x_1.2 : List (Int × Int)))])) h34 rfl (Enc.erase_enc (x_1 : (Int × (List (Int × Int))))) (ta_cons (v := (ji e_242)) h38 rfl rfl (ta_cons (v := (ji e_243)) h42 rfl rfl ta_nil))) (H.c145 _ _ _ _ E_r_244) H.g145 rfl rfl rfl rfl ?_
      refine gq (.nsq (run_cond (t := r_244) rfl h (fun h => ?_) (fun h => ?_)))
      · refine run_reg ?_
        refine e_frz (x := 7) (v := (eL x_232)) [] (by exact h7) (Enc.toks_enc (x_232 : List Int)) (fun s_72 hg_72 => ?_)
        refine ez [(1, _), (2, _), (4, _), (5, _), (6, _), (7, _), (8, _), (9, _)] ⟨(hg_72 1 (eL x_2) (eL x_2) h1 (frz_none _)), (hg_72 2 (.ref (.bx 2) 0 [] (.agg [(ji x_1.1), (Enc.enc (x_1.2 : List (Int × Int)))])) (.ref (.bx 2) 0 [] (.agg [(ji x_1.1), (Enc.enc (x_1.2 : List (Int × Int)))])) h2 (frz_none _)), (hg_72 4 (.sl .nl (Enc.shp (List Int)) 0 []) (.sl .nl (Enc.shp (List Int)) 0 []) h4 (frz_none _)), (hg_72 5 (encO (.at 5 []) (.of (x_85 : List (List Int)))) (encO (.at 5 []) (.of (x_85 : List (List Int)))) h5 (frz_none _)), (hg_72 6 (ji x_86) (ji x_86) h6 (frz_none _)), (hg_72 7 (eL x_232) (eL x_232) h7 (frz_none _)), (hg_72 8 (ji x_197) (ji x_197) h8 (frz_none _)), (hg_72 9 (ji x_233) (ji x_233) h9 (frz_none _))⟩ ?_
        rintro s ⟨h1, h2, h4, h5, h6, h7, h8, h9⟩
        refine gm h7 fun h44 => gm h1 fun h45 => gm h8 fun h46 => ?_
        obtain ⟨e_248, E_e_248, h⟩ := bind_some h
        refine gv (.ref .sh 0 [] (ji e_248)) (ev_idx (t := .sh) (lo := 0) (xs := x_2) h45 h46 E_e_248 rfl rfl) fun h47 => ?_
        refine g1 47 (ji e_248) h47 fun h48 => ?_
        obtain ⟨r_249, E_r_249, h⟩ := bind_some h
        refine g_call (m := 0) (al := true) (r := (Enc.enc (r_249 : (List Int)))) [Enc.enc (x_232 : (List Int)), Enc.enc (e_248 : Int)] (ta_cons (v := (eL x_232)) h44 rfl (Enc.erase_enc (x_232 : (List Int))) (ta_cons (v := (ji e_248)) h48 rfl rfl ta_nil)) (H.c146 _ _ _ E_r_249) H.g146 (hal_of (ht_cons (v := (eL x_232)) h44 rfl rfl (ht_cons (v := (ji e_248)) h48 rfl rfl ht_nil))) rfl rfl rfl ?_
        refine gm (rfl : (_ : V) = (eL r_249)) fun h7 => ?_
        refine gq ?_
        exact t_f82_j1 H x_2 x_1 x_85 x_86 x_197 x_233 c1 Hc1 c10 Hc10 (s_l6BagsOf_l1 F x_2 x_1 x_85 x_86 x_197 c1 c10 k) ih r_249 _ ⟨h1, h2, h4, h5, h6, h7, h8, h9⟩ h
      refine .skip ?_
      exact t_f82_j1 H x_2 x_1 x_85 x_86 x_197 x_233 c1 Hc1 c10 Hc10 (s_l6BagsOf_l1 F x_2 x_1 x_85 x_86 x_197 c1 c10 k) ih x_232 _ ⟨h1, h2, h4, h5, h6, h7, h8, h9⟩ h
    refine .exit (.esq (.elp (.ebk (.nbk (.nsq (rg (gm h8 fun h25 => g1 25 (ji (w64 (x_197 + 1))) h25 fun h26 => ?_)))))))
    refine gm h26 fun h8 => gq (.nlp ?_)
    exact Hc10 x_232 (w64 (x_197 + 1)) _ ⟨h1, h2, h4, h5, h6, h7, h8⟩ h
def s_l6BagsOf_l2 (F : Nat) (x_2 : (List Int)) (x_1 : (Int × (List (Int × Int)))) (x_85 : (List (List Int))) (x_86 : Int) (c1 : (List (List Int)) → Int → Option (List (List Int))) : Nat → (List Int) → Int → Option (List (List Int))
  | 0, _, _ => none
  | k + 1, x_196, x_197 =>
    bif decide (x_197 < x_86) then
      s_l6BagsOf_l1 F x_2 x_1 x_85 x_86 x_197 c1 (s_l6BagsOf_l2 F x_2 x_1 x_85 x_86 c1 k) F x_196 x_86
    else
      (appL x_85 [x_196]).bind fun ap_250 =>
      c1 ap_250 (w64 (x_86 + 1))
theorem t_f82_l2 (H : H82 D σ F) (x_2 : (List Int)) (x_1 : (Int × (List (Int × Int)))) (x_85 : (List (List Int))) (x_86 : Int) (c1 : (List (List Int)) → Int → Option (List (List Int))) (Hc1 : ∀ (x_85 : (List (List Int))) (x_86 : Int) (s : Nat → V), Facts [(1, (eL x_2)), (2, (.ref (.bx 2) 0 [] (.agg [(ji x_1.1), (Enc.enc (x_1.2 : List (Int × Int)))]))), (4, (.sl .nl (Enc.shp (List Int)) 0 [])), (5, (encO (.at 5 []) (.of (x_85 : List (List Int))))), (6, (ji x_86))] s → c1 x_85 x_86 = some r → Run D σ (R82 r) (.run A82_1 [.lp A82_1, .bk 0, .sq A82_18]) s) : ∀ (k : Nat) (x_196 : (List Int)) (x_197 : Int) (s : Nat → V), Facts [(1, (eL x_2)), (2, (.ref (.bx 2) 0 [] (.agg [(ji x_1.1), (Enc.enc (x_1.2 : List (Int × Int)))]))), (4, (.sl .nl (Enc.shp (List Int)) 0 [])), (5, (encO (.at 5 []) (.of (x_85 : List (List Int))))), (6, (ji x_86)), (7, (eL x_196)), (8, (ji x_197))] s → s_l6BagsOf_l2 F x_2 x_1 x_85 x_86 c1 k x_196 x_197 = some r → Run D σ (R82 r) (.run A82_6 [.lp A82_6, .bk 2, .sq A82_16, .bk 1, .sq A82_17, .lp A82_1, .bk 0, .sq A82_18]) s := by
  intro k
  induction k with
  | zero => intro x_196 x_197 s _ h; exact nomatch (h : (none : Option _) = some r)
  | succ k ih =>
    intro x_196 x_197 s hs h
    rw [s_l6BagsOf_l2] at h
    obtain ⟨h1, h2, h4, h5, h6, h7, h8⟩ := hs
    refine .seq (.seq (rg (gm h8 fun h22 => gm h6 fun h23 => g2 22 23 (jb (decide (x_197 < x_86))) h22 h23 fun h24 => ?_)))
    refine gq (.nsq (run_cond (t := decide (x_197 < x_86)) h24 h (fun h => ?_) (fun h => ?_)))
    · refine .skip (.nsq (.seq (.block (.seq (rg (gm h6 fun h27 => gm h27 fun h9 => gq (.nsq (.block (.loop ?_)))))))))
      exact t_f82_l1 H x_2 x_1 x_85 x_86 x_197 c1 Hc1 (s_l6BagsOf_l2 F x_2 x_1 x_85 x_86 c1 k) ih F x_196 x_86 _ ⟨h1, h2, h4, h5, h6, h7, h8, h9⟩ h
    refine .exit (.esq (.elp (.ebk (.nsq (run_reg ?_)))))
    refine e_clr ?_
    refine ez [(1, _), (2, _), (4, _), (5, _), (6, _), (7, _), (52, _), (53, _)] ⟨(keep_clear (pk := [52, 53]) h1 rfl me), (keep_clear (pk := [52, 53]) h2 rfl (map_bx rfl (map_agg (maps_cons mi (maps_cons me maps_nil))))), (keep_clear (pk := [52, 53]) h4 rfl rfl), (keep_clear (pk := [52, 53]) h5 rfl (map_encO (r := 5) (p := []) rfl rfl)), (keep_clear (pk := [52, 53]) h6 rfl mi), (keep_clear (pk := [52, 53]) h7 rfl me), (gone_clear (pk := [52, 53]) (t := 52) rfl), (gone_clear (pk := [52, 53]) (t := 53) rfl)⟩ ?_
    rintro s ⟨h1, h2, h4, h5, h6, h7, h52, h53⟩
    refine gm h5 fun h50 => gm h7 fun h51 => g_litL [(51, (eL x_196))] [Enc.enc (x_196 : (List Int))] h51 rfl rfl h52 ?_
    obtain ⟨ap_250, E_ap_250, h⟩ := bind_some h
    refine g_app (q := 5) (p := []) (o := (.of (x_85 : List (List Int)))) (ys := ([x_196] : List (List Int))) (t2 := (.at 52 [])) (lo2 := 0) h50 rfl rfl h53 (appN_L (o := (.of (x_85 : List (List Int)))) E_ap_250 trivial) (fun s_74 ha_74 => ?_)
    refine gm (rfl : (_ : V) = (encO (.at 53 []) (.of (ap_250 : List (List Int))))) fun h5 => ?_
    refine g_end ?_
    refine e_home (r := 53) (x := 5) (v := _) h5 rfl (fun s_75 hg_75 => ?_)
    refine ez [(1, (eL x_2)), (2, (.ref (.bx 2) 0 [] (.agg [(ji x_1.1), (Enc.enc (x_1.2 : List (Int × Int)))]))), (4, (.sl .nl (Enc.shp (List Int)) 0 [])), (5, (encO (.at 5 []) (.of (ap_250 : List (List Int))))), (6, (ji x_86))] ⟨(hg_75 1 _ _ (show s_74 1 = (eL x_2) from keep_app ha_74 h1 me) me), (hg_75 2 _ _ (show s_74 2 = (.ref (.bx 2) 0 [] (.agg [(ji x_1.1), (Enc.enc (x_1.2 : List (Int × Int)))])) from keep_app ha_74 h2 (map_bx rfl (map_agg (maps_cons mi (maps_cons me maps_nil))))) (map_bx rfl (map_agg (maps_cons mi (maps_cons me maps_nil))))), (hg_75 4 _ (.sl .nl (Enc.shp (List Int)) 0 []) (show s_74 4 = (.sl .nl (Enc.shp (List Int)) 0 []) from keep_app ha_74 h4 rfl) rfl), (hg_75 5 _ _ h5 (map_encO (r := 53) (p := []) rfl rfl)), (hg_75 6 _ _ (show s_74 6 = (ji x_86) from keep_app ha_74 h6 mi) mi)⟩ ?_
    rintro s ⟨h1, h2, h4, h5, h6⟩
    refine .nbk (.nsq (rg (gm h6 fun h15 => g1 15 (ji (w64 (x_86 + 1))) h15 fun h16 => ?_)))
    refine gm h16 fun h6 => gq (.nlp ?_)
    exact Hc1 ap_250 (w64 (x_86 + 1)) _ ⟨h1, h2, h4, h5, h6⟩ h
def s_l6BagsOf_l3 (F : Nat) (x_2 : (List Int)) (x_1 : (Int × (List (Int × Int))))  : Nat → (List (List Int)) → Int → Option (List (List Int))
  | 0, _, _ => none
  | k + 1, x_85, x_86 =>
    bif decide (x_86 < (x_2.length : Int)) then
      (idx x_2 x_86).bind fun e_169 =>
      s_l6BagsOf_l2 F x_2 x_1 x_85 x_86 (s_l6BagsOf_l3 F x_2 x_1 k) F [e_169] 0
    else
      some x_85
theorem t_f82_l3 (H : H82 D σ F) (x_2 : (List Int)) (x_1 : (Int × (List (Int × Int))))  : ∀ (k : Nat) (x_85 : (List (List Int))) (x_86 : Int) (s : Nat → V), Facts [(1, (eL x_2)), (2, (.ref (.bx 2) 0 [] (.agg [(ji x_1.1), (Enc.enc (x_1.2 : List (Int × Int)))]))), (4, (.sl .nl (Enc.shp (List Int)) 0 [])), (5, (encO (.at 5 []) (.of (x_85 : List (List Int))))), (6, (ji x_86))] s → s_l6BagsOf_l3 F x_2 x_1 k x_85 x_86 = some r → Run D σ (R82 r) (.run A82_1 [.lp A82_1, .bk 0, .sq A82_18]) s := by
  intro k
  induction k with
  | zero => intro x_85 x_86 s _ h; exact nomatch (h : (none : Option _) = some r)
  | succ k ih =>
    intro x_85 x_86 s hs h
    rw [s_l6BagsOf_l3] at h
    obtain ⟨h1, h2, h4, h5, h6⟩ := hs
    refine .seq (.seq (rg (gm h6 fun h11 => gm h1 fun h12 => gv (ji (x_2.length : Int)) (ev_len (xs := x_2) h12) fun h13 => ?_)))
    refine g2 11 13 (jb (decide (x_86 < (x_2.length : Int)))) h11 h13 fun h14 => ?_
    refine gq (.nsq (run_cond (t := decide (x_86 < (x_2.length : Int))) h14 h (fun h => ?_) (fun h => ?_)))
    · refine .skip (.nsq (.seq (.block (.seq (run_reg ?_)))))
      refine e_clr ?_
      refine ez [(1, _), (2, _), (4, _), (5, _), (6, _), (21, _)] ⟨(keep_clear (pk := [21]) h1 rfl me), (keep_clear (pk := [21]) h2 rfl (map_bx rfl (map_agg (maps_cons mi (maps_cons me maps_nil))))), (keep_clear (pk := [21]) h4 rfl rfl), (keep_clear (pk := [21]) h5 rfl (map_encO (r := 5) (p := []) rfl rfl)), (keep_clear (pk := [21]) h6 rfl mi), (gone_clear (pk := [21]) (t := 21) rfl)⟩ ?_
      rintro s ⟨h1, h2, h4, h5, h6, h21⟩
      refine gm h1 fun h17 => gm h6 fun h18 => ?_
      obtain ⟨e_169, E_e_169, h⟩ := bind_some h
      refine gv (.ref .sh 0 [] (ji e_169)) (ev_idx (t := .sh) (lo := 0) (xs := x_2) h17 h18 E_e_169 rfl rfl) fun h19 => ?_
      refine g1 19 (ji e_169) h19 fun h20 => ?_
      refine g_litL [(20, (ji e_169))] [Enc.enc (e_169 : Int)] h20 rfl rfl h21 ?_
      refine gm (rfl : (_ : V) = (oI 21 [] (.of [e_169]))) fun h7 => ?_
      refine g_end ?_
      refine e_home (r := 21) (x := 7) (v := _) h7 rfl (fun s_53 hg_53 => ?_)
      refine e_frz (x := 7) (v := (oI 7 [] (.of [e_169]))) [(.at 7 [])] (by exact (hg_53 7 _ _ h7 (map_encO (r := 21) (p := []) rfl rfl))) toks_ownL (fun s_54 hg_54 => ?_)
      refine ez [(1, (eL x_2)), (2, (.ref (.bx 2) 0 [] (.agg [(ji x_1.1), (Enc.enc (x_1.2 : List (Int × Int)))]))), (4, (.sl .nl (Enc.shp (List Int)) 0 [])), (5, (encO (.at 5 []) (.of (x_85 : List (List Int))))), (6, (ji x_86)), (7, (eL [e_169]))] ⟨(hg_54 1 (eL x_2) (eL x_2) (hg_53 1 _ _ h1 me) (Enc.frz_enc _ (x_2 : List Int))), (hg_54 2 (.ref (.bx 2) 0 [] (.agg [(ji x_1.1), (Enc.enc (x_1.2 : List (Int × Int)))])) (.ref (.bx 2) 0 [] (.agg [(ji x_1.1), (Enc.enc (x_1.2 : List (Int × Int)))])) (hg_53 2 _ _ h2 (map_bx rfl (map_agg (maps_cons mi (maps_cons me maps_nil))))) (frz_ref_ne rfl (frz_agg (frzs_cons rfl (frzs_cons (Enc.frz_enc _ (x_1.2 : List (Int × Int))) rfl))) rfl)), (hg_54 4 (.sl .nl (Enc.shp (List Int)) 0 []) (.sl .nl (Enc.shp (List Int)) 0 []) (hg_53 4 _ (.sl .nl (Enc.shp (List Int)) 0 []) h4 rfl) rfl), (hg_54 5 (encO (.at 5 []) (.of (x_85 : List (List Int)))) (encO (.at 5 []) (.of (x_85 : List (List Int)))) (hg_53 5 _ _ h5 (map_encO (r := 5) (p := []) rfl rfl)) (frz_own_ne rfl rfl)), (hg_54 6 (ji x_86) (ji x_86) (hg_53 6 _ _ h6 mi) rfl), (hg_54 7 (oI 7 [] (.of [e_169])) (eL [e_169]) (hg_53 7 _ _ h7 (map_encO (r := 21) (p := []) rfl rfl)) frz_own)⟩ ?_
      rintro s ⟨h1, h2, h4, h5, h6, h7⟩
      refine .nsq (.seq (.seq (rg (g0 (ji 0) fun h8 => gq (.nsq (.block (.loop ?_)))))))
      exact t_f82_l2 H x_2 x_1 x_85 x_86 (s_l6BagsOf_l3 F x_2 x_1 k) ih F [e_169] 0 _ ⟨h1, h2, h4, h5, h6, h7, h8⟩ h
    refine .exit (.esq (.elp (.ebk (.nsq (.seq (rg (gm h5 fun h54 => gm h54 fun h4 => g_end ?_)))))))
    refine e_home (r := 5) (x := 4) (v := _) h4 rfl (fun s_76 hg_76 => ?_)
    refine ez [(4, (encO (.at 4 []) (.of (x_85 : List (List Int)))))] (hg_76 4 _ _ h4 (map_encO (r := 5) (p := []) rfl rfl)) ?_
    rintro s h4
    refine .nsq (.ret ?_)
    have hr := Option.some.inj h
    subst hr
    exact rrA (res_tmp h4) (fin_ret1 (fin_own (o := .of x_85)))
def s_l6BagsOf (F : Nat) (x_1 : (Int × (List (Int × Int)))) (x_2 : (List Int)) : Option (List (List Int)) :=
  s_l6BagsOf_l3 F x_2 x_1 F [] 0
theorem t82 (H : H82 D σ F) (x_1 : (Int × (List (Int × Int)))) (x_2 : (List Int)) (s : Nat → V) (hs : Facts [(0, (.agg [(ji x_1.1), (Enc.enc (x_1.2 : List (Int × Int)))])), (1, (eL x_2))] s) (h : s_l6BagsOf F x_1 x_2 = some r) : Run D σ (R82 r) (.run A82 []) s := by
  unfold s_l6BagsOf at h
  obtain ⟨h0, h1⟩ := hs
  refine .seq (run_reg ?_)
  refine e_clr ?_
  refine ez [(0, _), (1, _), (2, _)] ⟨(keep_clear (pk := [2]) h0 rfl (map_agg (maps_cons mi (maps_cons me maps_nil)))), (keep_clear (pk := [2]) h1 rfl me), (gone_clear (pk := [2]) (t := 2) rfl)⟩ ?_
  rintro s ⟨h0, h1, h2⟩
  refine g_box (.agg [(ji x_1.1), (Enc.enc (x_1.2 : List (Int × Int)))]) (rd_of h0 rfl) h2 rfl ?_
  refine g0 (.sl .nl (Enc.shp (List Int)) 0 []) fun h4 => ?_
  refine gq (.nsq (.seq (run_reg ?_)))
  refine e_clr ?_
  refine ez [(1, _), (2, _), (4, _), (10, _)] ⟨(keep_clear (pk := [10]) h1 rfl me), (keep_clear (pk := [10]) rfl rfl (map_bx rfl (map_agg (maps_cons mi (maps_cons me maps_nil))))), (keep_clear (pk := [10]) h4 rfl rfl), (gone_clear (pk := [10]) (t := 10) rfl)⟩ ?_
  rintro s ⟨h1, h2, h4, h10⟩
  refine g_litL [] [] trivial rfl rfl h10 ?_
  refine gm (rfl : (_ : V) = (encO (.at 10 []) (.of ([] : List (List Int))))) fun h5 => ?_
  refine g_end ?_
  refine e_home (r := 10) (x := 5) (v := _) h5 rfl (fun s_3 hg_3 => ?_)
  refine ez [(1, (eL x_2)), (2, (.ref (.bx 2) 0 [] (.agg [(ji x_1.1), (Enc.enc (x_1.2 : List (Int × Int)))]))), (4, (.sl .nl (Enc.shp (List Int)) 0 [])), (5, (encO (.at 5 []) (.of ([] : List (List Int)))))] ⟨(hg_3 1 _ _ h1 me), (hg_3 2 _ _ h2 (map_bx rfl (map_agg (maps_cons mi (maps_cons me maps_nil))))), (hg_3 4 _ (.sl .nl (Enc.shp (List Int)) 0 []) h4 rfl), (hg_3 5 _ _ h5 (map_encO (r := 10) (p := []) rfl rfl))⟩ ?_
  rintro s ⟨h1, h2, h4, h5⟩
  refine .nsq (.seq (.seq (rg (g0 (ji 0) fun h6 => gq (.nsq (.block (.loop ?_)))))))
  exact t_f82_l3 H x_2 x_1 F [] 0 _ ⟨h1, h2, h4, h5, h6⟩ h
end
def e82 (F : Nat) : Ent := ent 82 (fun (x : ((Int × (List (Int × Int))) × (List Int) × Unit)) => s_l6BagsOf F x.1 x.2.1) (fun (r : (List (List Int))) => (Enc.enc (r : (List (List Int))))) 0 true []
theorem p82 {F : Nat} {x0 : (Int × (List (Int × Int)))} {x1 : (List Int)} {r : (List (List Int))} (h : s_l6BagsOf F x0 x1 = some r) : (e82 F).den [Enc.enc x0, Enc.enc x1] = some (Enc.enc (r : (List (List Int)))) := ent_put (x0, x1, ()) h
theorem o82 {D : Den} {σ : Sig} {F : Nat} (hF : Fits2 Try.prog D σ) (H : H82 D σ F) : (e82 F).Ok Try.prog := by
  refine ok_of (f := 82) (show unk 82 = 82 from rfl) (fun args r h => ?_) ⟨Try.f82, Try.func82, rfl, rfl⟩
  obtain ⟨⟨x0, x1, _⟩, y, rfl, hy, rfl⟩ := da_open h
  exact contract_run hF (by kernel_rfl) Try.func82 rfl c82 (show 2 ≤ Try.f82.ntmps by decide) (t82 H x0 x1 _ ⟨rfl, rfl⟩ hy)
/- loop.example/g01109/spec.BagsOfLayout -/
def A36_1 : AC := (.cond (.t 14) (.seq (.reg [.clr [15]] [(.mk (some 15) none false (.lit (.sl .nl .s 0 []) 0 [])), (jm 4 15), ((jv 5 (.mov (.k (.bool false)))))] [.home 15 4]) .ret) .skip)
def A36_2 : AC := (.seq (.reg [] [((jv 16 (.load (.ag [.s, .p]) (.t 2)))), (jm 17 1), (.mk (some 18) none false (.call (.k (.fn 82 [] [])) [(.t 16), (.t 17)])), (jm 4 18), ((jv 5 (.mov (.k (.bool true)))))] []) .ret)
def A36_3 : AC := (.seq (.seq (.reg [] [((jv 6 (.load (.ag [.s, .p]) (.t 2)))), (.mk (some 7) none false (.call (.k (.fn 72 [] [])) [(.t 6)])), ((jv 8 (.un .not (.t 7)))), (jm 9 8), ((jg 10 9 false (.load (.ag [.s, .p]) (.t 2)))), ((jg 11 9 false (.mov (.t 1)))), (.mk (some 12) (some (9, false)) false (.call (.k (.fn 81 [] [])) [(.t 10), (.t 11)])), ((jg 13 9 false (.un .not (.t 12)))), ((jv 14 (.pick (.t 9) (.k (.bool true)) (.t 13))))] []) A36_1) A36_2)
def A36 : AC := (.seq (.reg [.clr [2]] [(.mk (some 2) none false (.box (.t 0))), ((jv 4 (.mov (.k (.sl .nl .p 0 []))))), ((jv 5 (.mov (.k (.bool false)))))] []) A36_3)
def an36 : List An := [{ id := 0, pre := [.clr [2]], ep := [], lin := [], sp := [] }, { id := 2, pre := [.clr [15]], ep := [.home 15 4], lin := [], sp := [] }]
theorem c36 : cC Try.prog Try.f36.ntmps an36 (Try.f36.body.getD .skip) = some A36 := by kernel_rfl
structure H36 (D : Den) (σ : Sig) (F : Nat) : Prop where
  c72 : ∀ (x0 : (Int × (List (Int × Int)))) r, s_l2Good F x0 = some r → D 72 [Enc.enc x0] = some (Enc.enc (r : Bool))
  g72 : σ 72 = some (0, false)
  c81 : ∀ (x0 : (Int × (List (Int × Int)))) (x1 : (List Int)) r, s_l6Layout F x0 x1 = some r → D 81 [Enc.enc x0, Enc.enc x1] = some (Enc.enc (r : Bool))
  g81 : σ 81 = some (0, false)
  c82 : ∀ (x0 : (Int × (List (Int × Int)))) (x1 : (List Int)) r, s_l6BagsOf F x0 x1 = some r → D 82 [Enc.enc x0, Enc.enc x1] = some (Enc.enc (r : (List (List Int))))
  g82 : σ 82 = some (0, true)
abbrev R36 (r : ((List (List Int)) × Bool)) : (Nat → V) → Prop := RR Try.prog [.tmp 4, .tmp 5] 0 true (.tup [Enc.enc (r.1 : (List (List Int))), Enc.enc (r.2 : Bool)])
section
variable {D : Den} {σ : Sig} {F : Nat} {r : ((List (List Int)) × Bool)}
def s_BagsOfLayout_j1 (F : Nat) (x_2 : (List Int)) (x_1 : (Int × (List (Int × Int))))  (x_5 : Bool) : Option ((List (List Int)) × Bool) :=
  bif x_5 then
    some ([], false)
  else
    (s_l6BagsOf F x_1 x_2).bind fun r_6 =>
    some (r_6, true)
theorem t_f36_j1 (H : H36 D σ F) (x_2 : (List Int)) (x_1 : (Int × (List (Int × Int))))  (x_5 : Bool) (s : Nat → V) (hs : Facts [(1, (eL x_2)), (2, (.ref (.bx 2) 0 [] (.agg [(ji x_1.1), (Enc.enc (x_1.2 : List (Int × Int)))]))), (4, (.sl .nl (Enc.shp (List Int)) 0 [])), (5, (jb false)), (14, (jb x_5))] s) (h : s_BagsOfLayout_j1 F x_2 x_1  x_5 = some r) : Run D σ (R36 r) (.nrm [.sq A36_1, .sq A36_2]) s := by
  unfold s_BagsOfLayout_j1 at h
  obtain ⟨h1, h2, h4, h5, h14⟩ := hs
  refine .nsq (run_cond (t := x_5) h14 h (fun h => ?_) (fun h => ?_))
  · refine .seq (run_reg ?_)
    refine e_clr ?_
    refine ez [(1, _), (2, _), (4, _), (5, _), (15, _)] ⟨(keep_clear (pk := [15]) h1 rfl me), (keep_clear (pk := [15]) h2 rfl (map_bx rfl (map_agg (maps_cons mi (maps_cons me maps_nil))))), (keep_clear (pk := [15]) h4 rfl rfl), (keep_clear (pk := [15]) h5 rfl mb), (gone_clear (pk := [15]) (t := 15) rfl)⟩ ?_
    rintro s ⟨h1, h2, h4, h5, h15⟩
    refine g_litL [] [] trivial rfl rfl h15 ?_
    refine gm (rfl : (_ : V) = (encO (.at 15 []) (.of ([] : List (List Int))))) fun h4 => ?_
    refine g0 (jb false) fun h5 => ?_
    refine g_end ?_
    refine e_home (r := 15) (x := 4) (v := _) h4 rfl (fun s_5 hg_5 => ?_)
    refine ez [(1, (eL x_2)), (2, (.ref (.bx 2) 0 [] (.agg [(ji x_1.1), (Enc.enc (x_1.2 : List (Int × Int)))]))), (4, (encO (.at 4 []) (.of ([] : List (List Int))))), (5, (jb false))] ⟨(hg_5 1 _ _ h1 me), (hg_5 2 _ _ h2 (map_bx rfl (map_agg (maps_cons mi (maps_cons me maps_nil))))), (hg_5 4 _ _ h4 (map_encO (r := 15) (p := []) rfl rfl)), (hg_5 5 _ _ h5 mb)⟩ ?_
    rintro s ⟨h1, h2, h4, h5⟩
    refine .nsq (.ret ?_)
    have hr := Option.some.inj h
    subst hr
    exact rrB (res_tmp h4) (res_tmp h5) (fin_ret1 (fin_tup (fins_cons (fin_own (o := .of [])) (fins_cons (fin_enc (x := (false : Bool))) fins_nil))))
  refine .skip (.nsq (.seq (rg (g1 2 (.agg [(ji x_1.1), (Enc.enc (x_1.2 : List (Int × Int)))]) h2 fun h16 => ?_))))
  refine gm h1 fun h17 => ?_
  obtain ⟨r_6, E_r_6, h⟩ := bind_some h
  refine g_call (m := 0) (al := true) (r := (Enc.enc (r_6 : (List (List Int))))) [Enc.enc (x_1 : (Int × (List (Int × Int)))), Enc.enc (x_2 : (List Int))] (ta_cons (v := (.agg [(ji x_1.1), (Enc.enc (x_1.2 : List (Int × Int)))])) h16 rfl (Enc.erase_enc (x_1 : (Int × (List (Int × Int))))) (ta_cons (v := (eL x_2)) h17 rfl (Enc.erase_enc (x_2 : (List Int))) ta_nil)) (H.c82 _ _ _ E_r_6) H.g82 (hal_of (ht_cons (v := (.agg [(ji x_1.1), (Enc.enc (x_1.2 : List (Int × Int)))])) h16 rfl rfl (ht_cons (v := (eL x_2)) h17 rfl rfl ht_nil))) rfl rfl rfl ?_
  refine gm (rfl : (_ : V) = (Enc.enc (r_6 : List (List Int)))) fun h4 => ?_
  refine g0 (jb true) fun h5 => ?_
  refine gq (.nsq (.ret ?_))
  have hr := Option.some.inj h
  subst hr
  exact rrB (res_tmp h4) (res_tmp h5) (fin_ret1 (fin_tup (fins_cons (fin_enc (x := (r_6 : (List (List Int))))) (fins_cons (fin_enc (x := (true : Bool))) fins_nil))))
def s_BagsOfLayout (F : Nat) (x_1 : (Int × (List (Int × Int)))) (x_2 : (List Int)) : Option ((List (List Int)) × Bool) :=
  (s_l2Good F x_1).bind fun r_7 =>
  bif (!r_7) then
    s_BagsOfLayout_j1 F x_2 x_1 true
  else
    (s_l6Layout F x_1 x_2).bind fun r_8 =>
    s_BagsOfLayout_j1 F x_2 x_1 (!r_8)
theorem t36 (H : H36 D σ F) (x_1 : (Int × (List (Int × Int)))) (x_2 : (List Int)) (s : Nat → V) (hs : Facts [(0, (.agg [(ji x_1.1), (Enc.enc (x_1.2 : List (Int × Int)))])), (1, (eL x_2))] s) (h : s_BagsOfLayout F x_1 x_2 = some r) : Run D σ (R36 r) (.run A36 []) s := by
  unfold s_BagsOfLayout at h
  obtain ⟨h0, h1⟩ := hs
  refine .seq (run_reg ?_)
  refine e_clr ?_
  refine ez [(0, _), (1, _), (2, _)] ⟨(keep_clear (pk := [2]) h0 rfl (map_agg (maps_cons mi (maps_cons me maps_nil)))), (keep_clear (pk := [2]) h1 rfl me), (gone_clear (pk := [2]) (t := 2) rfl)⟩ ?_
  rintro s ⟨h0, h1, h2⟩
  refine g_box (.agg [(ji x_1.1), (Enc.enc (x_1.2 : List (Int × Int)))]) (rd_of h0 rfl) h2 rfl ?_
  refine g0 (.sl .nl (Enc.shp (List Int)) 0 []) fun h4 => ?_
  refine g0 (jb false) fun h5 => ?_
  refine gq (.nsq (.seq (.seq (rg (g1 2 (.agg [(ji x_1.1), (Enc.enc (x_1.2 : List (Int × Int)))]) (rfl : (_ : V) = (.ref (.bx 2) 0 [] (.agg [(ji x_1.1), (Enc.enc (x_1.2 : List (Int × Int)))]))) fun h6 => ?_)))))
  obtain ⟨r_7, E_r_7, h⟩ := bind_some h
  refine g_call (m := 0) (al := false) (r := (Enc.enc (r_7 : Bool))) [Enc.enc (x_1 : (Int × (List (Int × Int))))] (ta_cons (v := (.agg [(ji x_1.1), (Enc.enc (x_1.2 : List (Int × Int)))])) h6 rfl (Enc.erase_enc (x_1 : (Int × (List (Int × Int))))) ta_nil) (H.c72 _ _ E_r_7) H.g72 rfl rfl rfl rfl ?_
  refine g1 7 (jb (!r_7)) (rfl : (_ : V) = (jb r_7)) fun h8 => ?_
  refine gm h8 fun h9 => split_on (c := (!r_7)) h (fun hg4 h => ?_) (fun hg4 h => ?_)
  · refine g_no (h9.trans (congrArg V.bool hg4)) ?_
    refine g_no (h9.trans (congrArg V.bool hg4)) ?_
    refine g_no (h9.trans (congrArg V.bool hg4)) ?_
    refine g_no (h9.trans (congrArg V.bool hg4)) ?_
    refine g2 9 13 (jb true) (h9.trans (congrArg V.bool hg4)) (rfl : (_ : V) = (.tup [])) fun h14 => ?_
    refine gq ?_
    exact t_f36_j1 H x_2 x_1 true _ ⟨h1, rfl, h4, h5, h14⟩ h
  refine g_yes (h9.trans (congrArg V.bool hg4)) (g1 2 (.agg [(ji x_1.1), (Enc.enc (x_1.2 : List (Int × Int)))]) (rfl : (_ : V) = (.ref (.bx 2) 0 [] (.agg [(ji x_1.1), (Enc.enc (x_1.2 : List (Int × Int)))]))) fun h10 => ?_)
  refine g_yes (h9.trans (congrArg V.bool hg4)) (gm h1 fun h11 => ?_)
  obtain ⟨r_8, E_r_8, h⟩ := bind_some h
  refine g_yes (h9.trans (congrArg V.bool hg4)) (g_call (m := 0) (al := false) (r := (Enc.enc (r_8 : Bool))) [Enc.enc (x_1 : (Int × (List (Int × Int)))), Enc.enc (x_2 : (List Int))] (ta_cons (v := (.agg [(ji x_1.1), (Enc.enc (x_1.2 : List (Int × Int)))])) h10 rfl (Enc.erase_enc (x_1 : (Int × (List (Int × Int))))) (ta_cons (v := (eL x_2)) h11 rfl (Enc.erase_enc (x_2 : (List Int))) ta_nil)) (H.c81 _ _ _ E_r_8) H.g81 rfl rfl rfl rfl ?_)
  refine g_yes (h9.trans (congrArg V.bool hg4)) (g1 12 (jb (!r_8)) (rfl : (_ : V) = (jb r_8)) fun h13 => ?_)
  refine g2 9 13 (jb (!r_8)) (h9.trans (congrArg V.bool hg4)) h13 fun h14 => ?_
  refine gq ?_
  exact t_f36_j1 H x_2 x_1 (!r_8) _ ⟨h1, rfl, h4, h5, h14⟩ h
end
def e36 (F : Nat) : Ent := ent 36 (fun (x : ((Int × (List (Int × Int))) × (List Int) × Unit)) => s_BagsOfLayout F x.1 x.2.1) (fun (r : ((List (List Int)) × Bool)) => (.tup [Enc.enc (r.1 : (List (List Int))), Enc.enc (r.2 : Bool)])) 0 true []
theorem p36 {F : Nat} {x0 : (Int × (List (Int × Int)))} {x1 : (List Int)} {r : ((List (List Int)) × Bool)} (h : s_BagsOfLayout F x0 x1 = some r) : (e36 F).den [Enc.enc x0, Enc.enc x1] = some (.tup [Enc.enc (r.1 : (List (List Int))), Enc.enc (r.2 : Bool)]) := ent_put (x0, x1, ()) h
theorem o36 {D : Den} {σ : Sig} {F : Nat} (hF : Fits2 Try.prog D σ) (H : H36 D σ F) : (e36 F).Ok Try.prog := by
  refine ok_of (f := 36) (show unk 36 = 36 from rfl) (fun args r h => ?_) ⟨Try.f36, Try.func36, rfl, rfl⟩
  obtain ⟨⟨x0, x1, _⟩, y, rfl, hy, rfl⟩ := da_open h
  exact contract_run hF (by kernel_rfl) Try.func36 rfl c36 (show 2 ≤ Try.f36.ntmps by decide) (t36 H x0 x1 _ ⟨rfl, rfl⟩ hy)
/- loop.example/g01109/impl.within -/
def A105_1 : AC := (.seq (.reg [] [(jm 7 0), (jm 8 1), ((jv 9 (.bin .geq (.t 7) (.t 8)))), (jm 10 9), ((jg 11 10 true (.mov (.t 0)))), ((jg 12 10 true (.mov (.t 2)))), ((jg 13 10 true (.bin .leq (.t 11) (.t 12)))), ((jv 14 (.pick (.t 10) (.t 13) (.k (.bool false))))), (jm 6 14)] []) .ret)
def A105 : AC := (.seq (.reg [] [((jv 6 (.mov (.k (.bool false)))))] []) A105_1)
def an105 : List An := []
theorem c105 : cC Try.prog Try.f105.ntmps an105 (Try.f105.body.getD .skip) = some A105 := by kernel_rfl
structure H105 (D : Den) (σ : Sig) (F : Nat) : Prop where
  mk ::
abbrev R105 (r : Bool) : (Nat → V) → Prop := RR Try.prog [.tmp 6] 0 false (Enc.enc (r : Bool))
section
variable {D : Den} {σ : Sig} {F : Nat} {r : Bool}
def i_within (F : Nat) (x_1 : Int) (x_2 : Int) (x_3 : Int) : Option Bool :=
  bif decide (x_1 ≥ x_2) then
    some (decide (x_1 ≤ x_3))
  else
    some false
theorem t105 (H : H105 D σ F) (x_1 : Int) (x_2 : Int) (x_3 : Int) (s : Nat → V) (hs : Facts [(0, (ji x_1)), (1, (ji x_2)), (2, (ji x_3))] s) (h : i_within F x_1 x_2 x_3 = some r) : Run D σ (R105 r) (.run A105 []) s := by
  unfold i_within at h
  obtain ⟨h0, h1, h2⟩ := hs
  refine .seq (rg (g0 (jb false) fun h6 => ?_))
  refine gq (.nsq (.seq (rg (gm h0 fun h7 => gm h1 fun h8 => g2 7 8 (jb (decide (x_1 ≥ x_2))) h7 h8 fun h9 => ?_))))
  refine gm h9 fun h10 => split_on (c := decide (x_1 ≥ x_2)) h (fun hg4 h => ?_) (fun hg4 h => ?_)
  · refine g_yes (h10.trans (congrArg V.bool hg4)) (gm h0 fun h11 => ?_)
    refine g_yes (h10.trans (congrArg V.bool hg4)) (gm h2 fun h12 => ?_)
    refine g_yes (h10.trans (congrArg V.bool hg4)) (g2 11 12 (jb (decide (x_1 ≤ x_3))) h11 h12 fun h13 => ?_)
    refine g2 10 13 (jb (decide (x_1 ≤ x_3))) (h10.trans (congrArg V.bool hg4)) h13 fun h14 => ?_
    refine gm h14 fun h6 => gq (.nsq (.ret ?_))
    have hr := Option.some.inj h
    subst hr
    exact rrA (res_tmp h6) rfl
  refine g_no (h10.trans (congrArg V.bool hg4)) ?_
  refine g_no (h10.trans (congrArg V.bool hg4)) ?_
  refine g_no (h10.trans (congrArg V.bool hg4)) ?_
  refine g2 10 13 (jb false) (h10.trans (congrArg V.bool hg4)) (rfl : (_ : V) = (.tup [])) fun h14 => ?_
  refine gm h14 fun h6 => gq (.nsq (.ret ?_))
  have hr := Option.some.inj h
  subst hr
  exact rrA (res_tmp h6) rfl
end
def e105 (F : Nat) : Ent := ent 105 (fun (x : (Int × Int × Int × Unit)) => i_within F x.1 x.2.1 x.2.2.1) (fun (r : Bool) => (Enc.enc (r : Bool))) 0 false []
theorem p105 {F : Nat} {x0 : Int} {x1 : Int} {x2 : Int} {r : Bool} (h : i_within F x0 x1 x2 = some r) : (e105 F).den [Enc.enc x0, Enc.enc x1, Enc.enc x2] = some (Enc.enc (r : Bool)) := ent_put (x0, x1, x2, ()) h
theorem o105 {D : Den} {σ : Sig} {F : Nat} (hF : Fits2 Try.prog D σ) (H : H105 D σ F) : (e105 F).Ok Try.prog := by
  refine ok_of (f := 105) (show unk 105 = 105 from rfl) (fun args r h => ?_) ⟨Try.f105, Try.func105, rfl, rfl⟩
  obtain ⟨⟨x0, x1, x2, _⟩, y, rfl, hy, rfl⟩ := da_open h
  exact contract_run hF (by kernel_rfl) Try.func105 rfl c105 (show 3 ≤ Try.f105.ntmps by decide) (t105 H x0 x1 x2 _ ⟨rfl, rfl, rfl⟩ hy)
/- cmp.isNaN[int] -/
def A180_1 : AC := (.seq (.reg [] [(jm 3 0), (jm 4 0), ((jv 5 (.bin .neq (.t 3) (.t 4)))), (jm 2 5)] []) .ret)
def A180 : AC := (.seq (.reg [] [((jv 2 (.mov (.k (.bool false)))))] []) A180_1)
def an180 : List An := []
theorem c180 : cC Try.prog Try.f180.ntmps an180 (Try.f180.body.getD .skip) = some A180 := by kernel_rfl
structure H180 (D : Den) (σ : Sig) (F : Nat) : Prop where
  mk ::
abbrev R180 (r : Bool) : (Nat → V) → Prop := RR Try.prog [.tmp 2] 0 false (Enc.enc (r : Bool))
section
variable {D : Den} {σ : Sig} {F : Nat} {r : Bool}
def cmp_isNaN_int (F : Nat) (x_1 : Int) : Option Bool :=
  some (x_1 != x_1)
theorem t180 (H : H180 D σ F) (x_1 : Int) (s : Nat → V) (hs : Facts [(0, (ji x_1))] s) (h : cmp_isNaN_int F x_1 = some r) : Run D σ (R180 r) (.run A180 []) s := by
  unfold cmp_isNaN_int at h
  have h0 := hs
  refine .seq (rg (g0 (jb false) fun h2 => ?_))
  refine gq (.nsq (.seq (rg (gm h0 fun h3 => gm h0 fun h4 => g2 3 4 (jb (x_1 != x_1)) h3 h4 fun h5 => ?_))))
  refine gm h5 fun h2 => gq (.nsq (.ret ?_))
  have hr := Option.some.inj h
  subst hr
  exact rrA (res_tmp h2) rfl
end
def e180 (F : Nat) : Ent := ent 180 (fun (x : (Int × Unit)) => cmp_isNaN_int F x.1) (fun (r : Bool) => (Enc.enc (r : Bool))) 0 false []
theorem p180 {F : Nat} {x0 : Int} {r : Bool} (h : cmp_isNaN_int F x0 = some r) : (e180 F).den [Enc.enc x0] = some (Enc.enc (r : Bool)) := ent_put (x0, ()) h
theorem o180 {D : Den} {σ : Sig} {F : Nat} (hF : Fits2 Try.prog D σ) (H : H180 D σ F) : (e180 F).Ok Try.prog := by
  refine ok_of (f := 180) (show unk 180 = 180 from rfl) (fun args r h => ?_) ⟨Try.f180, Try.func180, rfl, rfl⟩
  obtain ⟨⟨x0, _⟩, y, rfl, hy, rfl⟩ := da_open h
  exact contract_run hF (by kernel_rfl) Try.func180 rfl c180 (show 1 ≤ Try.f180.ntmps by decide) (t180 H x0 _ rfl hy)
/- cmp.Compare[int] -/
def A153_5 : AC := (.cond (.t 12) (.seq (.reg [] [((jv 4 (.mov (jn 0))))] []) .ret) .skip)
def A153_6 : AC := (.seq (.reg [] [((jv 4 (.mov (jn (-1)))))] []) .ret)
def A153_4 : AC := (.cond (.t 11) (.seq (.seq (.reg [] [(jm 12 6)] []) A153_5) A153_6) .skip)
def A153_8 : AC := (.cond (.t 13) (.seq (.reg [] [((jv 4 (.mov (jn 1))))] []) .ret) .skip)
def A153_10 : AC := (.cond (.t 16) (.seq (.reg [] [((jv 4 (.mov (jn (-1)))))] []) .ret) .skip)
def A153_12 : AC := (.cond (.t 19) (.seq (.reg [] [((jv 4 (.mov (jn 1))))] []) .ret) .skip)
def A153_13 : AC := (.seq (.reg [] [((jv 4 (.mov (jn 0))))] []) .ret)
def A153_11 : AC := (.seq (.seq (.reg [] [(jm 17 0), (jm 18 1), ((jv 19 (.bin .gtr (.t 17) (.t 18))))] []) A153_12) A153_13)
def A153_9 : AC := (.seq (.seq (.reg [] [(jm 14 0), (jm 15 1), ((jv 16 (.bin .lss (.t 14) (.t 15))))] []) A153_10) A153_11)
def A153_7 : AC := (.seq (.seq (.reg [] [(jm 13 6)] []) A153_8) A153_9)
def A153_3 : AC := (.seq (.seq (.reg [] [(jm 11 5)] []) A153_4) A153_7)
def A153_2 : AC := (.seq (.reg [] [(jm 9 1), (.mk (some 10) none false (.call (.k (.fn 180 [] [])) [(.t 9)])), (jm 6 10)] []) A153_3)
def A153_1 : AC := (.seq (.reg [] [(jm 7 0), (.mk (some 8) none false (.call (.k (.fn 180 [] [])) [(.t 7)])), (jm 5 8)] []) A153_2)
def A153 : AC := (.seq (.reg [] [((jv 4 (.mov (jn 0))))] []) A153_1)
def an153 : List An := []
theorem c153 : cC Try.prog Try.f153.ntmps an153 (Try.f153.body.getD .skip) = some A153 := by kernel_rfl
structure H153 (D : Den) (σ : Sig) (F : Nat) : Prop where
  c180 : ∀ (x0 : Int) r, cmp_isNaN_int F x0 = some r → D 180 [Enc.enc x0] = some (Enc.enc (r : Bool))
  g180 : σ 180 = some (0, false)
abbrev R153 (r : Int) : (Nat → V) → Prop := RR Try.prog [.tmp 4] 0 false (Enc.enc (r : Int))
section
variable {D : Den} {σ : Sig} {F : Nat} {r : Int}
def cmp_Compare_int (F : Nat) (x_1 : Int) (x_2 : Int) : Option Int :=
  (cmp_isNaN_int F x_1).bind fun r_3 =>
  (cmp_isNaN_int F x_2).bind fun r_4 =>
  bif r_3 then
    bif r_4 then
      some 0
    else
      some (-1)
  else
    bif r_4 then
      some 1
    else
      bif decide (x_1 < x_2) then
        some (-1)
      else
        bif decide (x_1 > x_2) then
          some 1
        else
          some 0
theorem t153 (H : H153 D σ F) (x_1 : Int) (x_2 : Int) (s : Nat → V) (hs : Facts [(0, (ji x_1)), (1, (ji x_2))] s) (h : cmp_Compare_int F x_1 x_2 = some r) : Run D σ (R153 r) (.run A153 []) s := by
  unfold cmp_Compare_int at h
  obtain ⟨h0, h1⟩ := hs
  refine .seq (rg (g0 (ji 0) fun h4 => gq (.nsq (.seq (rg (gm h0 fun h7 => ?_))))))
  obtain ⟨r_3, E_r_3, h⟩ := bind_some h
  refine g_call (m := 0) (al := false) (r := (Enc.enc (r_3 : Bool))) [Enc.enc (x_1 : Int)] (ta_cons (v := (ji x_1)) h7 rfl rfl ta_nil) (H.c180 _ _ E_r_3) H.g180 rfl rfl rfl rfl ?_
  refine gm (rfl : (_ : V) = (jb r_3)) fun h5 => ?_
  refine gq (.nsq (.seq (rg (gm h1 fun h9 => ?_))))
  obtain ⟨r_4, E_r_4, h⟩ := bind_some h
  refine g_call (m := 0) (al := false) (r := (Enc.enc (r_4 : Bool))) [Enc.enc (x_2 : Int)] (ta_cons (v := (ji x_2)) h9 rfl rfl ta_nil) (H.c180 _ _ E_r_4) H.g180 rfl rfl rfl rfl ?_
  refine gm (rfl : (_ : V) = (jb r_4)) fun h6 => ?_
  refine gq (.nsq (.seq (.seq (rg (gm h5 fun h11 => gq (.nsq (run_cond (t := r_3) h11 h (fun h => ?_) (fun h => ?_))))))))
  · refine .seq (.seq (rg (gm h6 fun h12 => gq (.nsq (run_cond (t := r_4) h12 h (fun h => ?_) (fun h => ?_))))))
    · refine .seq (rg (g0 (ji 0) fun h4 => gq (.nsq (.ret ?_))))
      have hr := Option.some.inj h
      subst hr
      exact rrA (res_tmp h4) rfl
    refine .skip (.nsq (.seq (rg (g0 (ji (-1)) fun h4 => ?_))))
    refine gq (.nsq (.ret ?_))
    have hr := Option.some.inj h
    subst hr
    exact rrA (res_tmp h4) rfl
  refine .skip (.nsq (.seq (.seq (rg (gm h6 fun h13 => gq (.nsq (run_cond (t := r_4) h13 h (fun h => ?_) (fun h => ?_))))))))
  · refine .seq (rg (g0 (ji 1) fun h4 => gq (.nsq (.ret ?_))))
    have hr := Option.some.inj h
    subst hr
    exact rrA (res_tmp h4) rfl
  refine .skip (.nsq (.seq (.seq (rg (gm h0 fun h14 => gm h1 fun h15 => g2 14 15 (jb (decide (x_1 < x_2))) h14 h15 fun h16 => ?_)))))
  refine gq (.nsq (run_cond (t := decide (x_1 < x_2)) h16 h (fun h => ?_) (fun h => ?_)))
  · refine .seq (rg (g0 (ji (-1)) fun h4 => ?_))
    refine gq (.nsq (.ret ?_))
    have hr := Option.some.inj h
    subst hr
    exact rrA (res_tmp h4) rfl
  refine .skip (.nsq (.seq (.seq (rg (gm h0 fun h17 => gm h1 fun h18 => g2 17 18 (jb (decide (x_1 > x_2))) h17 h18 fun h19 => ?_)))))
  refine gq (.nsq (run_cond (t := decide (x_1 > x_2)) h19 h (fun h => ?_) (fun h => ?_)))
  · refine .seq (rg (g0 (ji 1) fun h4 => gq (.nsq (.ret ?_))))
    have hr := Option.some.inj h
    subst hr
    exact rrA (res_tmp h4) rfl
  refine .skip (.nsq (.seq (rg (g0 (ji 0) fun h4 => gq (.nsq (.ret ?_))))))
  have hr := Option.some.inj h
  subst hr
  exact rrA (res_tmp h4) rfl
end
def e153 (F : Nat) : Ent := ent 153 (fun (x : (Int × Int × Unit)) => cmp_Compare_int F x.1 x.2.1) (fun (r : Int) => (Enc.enc (r : Int))) 0 false []
theorem p153 {F : Nat} {x0 : Int} {x1 : Int} {r : Int} (h : cmp_Compare_int F x0 x1 = some r) : (e153 F).den [Enc.enc x0, Enc.enc x1] = some (Enc.enc (r : Int)) := ent_put (x0, x1, ()) h
theorem o153 {D : Den} {σ : Sig} {F : Nat} (hF : Fits2 Try.prog D σ) (H : H153 D σ F) : (e153 F).Ok Try.prog := by
  refine ok_of (f := 153) (show unk 153 = 153 from rfl) (fun args r h => ?_) ⟨Try.f153, Try.func153, rfl, rfl⟩
  obtain ⟨⟨x0, x1, _⟩, y, rfl, hy, rfl⟩ := da_open h
  exact contract_run hF (by kernel_rfl) Try.func153 rfl c153 (show 2 ≤ Try.f153.ntmps by decide) (t153 H x0 x1 _ ⟨rfl, rfl⟩ hy)
/- slices.Compare[[]int,int] -/
def A94_5 : AC := (.cond (.t 19) (.seq (.reg [] [((jv 4 (.mov (jn 1))))] []) .ret) .skip)
def A94_9 : AC := (.cond (.t 28) (.seq (.reg [] [(jm 29 8), (jm 4 29)] []) .ret) .skip)
def A94_8 : AC := (.seq (.reg [] [(jm 27 8), ((jv 28 (.bin .neq (.t 27) (jn 0))))] []) A94_9)
def A94_7 : AC := (.seq (.reg [] [(jm 24 6), (jm 25 7), (.mk (some 26) none false (.call (.k (.fn 153 [] [])) [(.t 24), (.t 25)])), (jm 8 26)] []) A94_8)
def A94_6 : AC := (.seq (.reg [] [(jm 20 1), (jm 21 5), ((jv 22 (.idx (.t 20) (.t 21) 1))), ((jv 23 (.load .s (.t 22)))), (jm 7 23)] []) A94_7)
def A94_4 : AC := (.seq (.seq (.reg [] [(jm 16 5), (jm 17 1), ((jv 18 (.len (.t 17)))), ((jv 19 (.bin .geq (.t 16) (.t 18))))] []) A94_5) A94_6)
def A94_10 : AC := (.reg [] [((jv 30 (.bin .add (.t 11) (jn 1)))), (jm 11 30)] [])
def A94_3 : AC := (.seq (.block 1 (.seq (.reg [] [(jm 13 11), ((jv 14 (.idx (.t 9) (.t 11) 1))), ((jv 15 (.load .s (.t 14)))), (jm 5 13), (jm 6 15)] []) A94_4)) A94_10)
def A94_2 : AC := (.seq (.cond (.t 12) .skip (.exit 0)) A94_3)
def A94_1 : AC := (.seq (.reg [] [((jv 12 (.bin .lss (.t 11) (.t 10))))] []) A94_2)
def A94_12 : AC := (.cond (.t 35) (.seq (.reg [] [((jv 4 (.mov (jn (-1)))))] []) .ret) .skip)
def A94_13 : AC := (.seq (.reg [] [((jv 4 (.mov (jn 0))))] []) .ret)
def A94_11 : AC := (.seq (.seq (.reg [] [(jm 31 0), ((jv 32 (.len (.t 31)))), (jm 33 1), ((jv 34 (.len (.t 33)))), ((jv 35 (.bin .lss (.t 32) (.t 34))))] []) A94_12) A94_13)
def A94_15 : AC := (.block 0 (.loop A94_1))
def A94_14 : AC := (.seq (.seq (.reg [] [(jm 9 0), ((jv 10 (.len (.t 9)))), ((jv 11 (.mov (jn 0))))] []) A94_15) A94_11)
def A94 : AC := (.seq (.reg [] [((jv 4 (.mov (jn 0))))] []) A94_14)
def an94 : List An := []
theorem c94 : cC Try.prog Try.f94.ntmps an94 (Try.f94.body.getD .skip) = some A94 := by kernel_rfl
structure H94 (D : Den) (σ : Sig) (F : Nat) : Prop where
  c153 : ∀ (x0 : Int) (x1 : Int) r, cmp_Compare_int F x0 x1 = some r → D 153 [Enc.enc x0, Enc.enc x1] = some (Enc.enc (r : Int))
  g153 : σ 153 = some (0, false)
abbrev R94 (r : Int) : (Nat → V) → Prop := RR Try.prog [.tmp 4] 0 false (Enc.enc (r : Int))
section
variable {D : Den} {σ : Sig} {F : Nat} {r : Int}
def slices_Compare_l1 (F : Nat) (x_1 : (List Int)) (x_2 : (List Int))  : Nat → Int → Option Int
  | 0, _ => none
  | k + 1, x_6 =>
    bif decide (x_6 < (x_1.length : Int)) then
      (idx x_1 x_6).bind fun e_10 =>
      bif decide (x_6 ≥ (x_2.length : Int)) then
        some 1
      else
        (idx x_2 x_6).bind fun e_11 =>
        (cmp_Compare_int F e_10 e_11).bind fun r_12 =>
        bif (r_12 != 0) then
          some r_12
        else
          (slices_Compare_l1 F x_1 x_2 k) (w64 (x_6 + 1))
    else
      bif decide ((x_1.length : Int) < (x_2.length : Int)) then
        some (-1)
      else
        some 0
theorem t_f94_l1 (H : H94 D σ F) (x_1 : (List Int)) (x_2 : (List Int))  : ∀ (k : Nat) (x_6 : Int) (s : Nat → V), Facts [(0, (eL x_1)), (1, (eL x_2)), (4, (ji 0)), (9, (eL x_1)), (10, (ji (x_1.length : Int))), (11, (ji x_6))] s → slices_Compare_l1 F x_1 x_2 k x_6 = some r → Run D σ (R94 r) (.run A94_1 [.lp A94_1, .bk 0, .sq A94_11]) s := by
  intro k
  induction k with
  | zero => intro x_6 s _ h; exact nomatch (h : (none : Option _) = some r)
  | succ k ih =>
    intro x_6 s hs h
    rw [slices_Compare_l1] at h
    obtain ⟨h0, h1, h4, h9, h10, h11⟩ := hs
    refine .seq (rg (g2 11 10 (jb (decide (x_6 < (x_1.length : Int)))) h11 h10 fun h12 => ?_))
    refine gq (.nsq (.seq (run_cond (t := decide (x_6 < (x_1.length : Int))) h12 h (fun h => ?_) (fun h => ?_))))
    · refine .skip (.nsq (.seq (.block (.seq (rg (gm h11 fun h13 => ?_))))))
      obtain ⟨e_10, E_e_10, h⟩ := bind_some h
      refine gv (.ref .sh 0 [] (ji e_10)) (ev_idx (t := .sh) (lo := 0) (xs := x_1) h9 h11 E_e_10 rfl rfl) fun h14 => ?_
      refine g1 14 (ji e_10) h14 fun h15 => ?_
      refine gm h13 fun h5 => gm h15 fun h6 => gq (.nsq (.seq (.seq (rg (gm h5 fun h16 => gm h1 fun h17 => gv (ji (x_2.length : Int)) (ev_len (xs := x_2) h17) fun h18 => ?_)))))
      refine g2 16 18 (jb (decide (x_6 ≥ (x_2.length : Int)))) h16 h18 fun h19 => ?_
      refine gq (.nsq (run_cond (t := decide (x_6 ≥ (x_2.length : Int))) h19 h (fun h => ?_) (fun h => ?_)))
      · refine .seq (rg (g0 (ji 1) fun h4 => gq (.nsq (.ret ?_))))
        have hr := Option.some.inj h
        subst hr
        exact rrA (res_tmp h4) rfl
      refine .skip (.nsq (.seq (rg (gm h1 fun h20 => gm h5 fun h21 => ?_))))
      obtain ⟨e_11, E_e_11, h⟩ := bind_some h
      refine gv (.ref .sh 0 [] (ji e_11)) (ev_idx (t := .sh) (lo := 0) (xs := x_2) h20 h21 E_e_11 rfl rfl) fun h22 => ?_
      refine g1 22 (ji e_11) h22 fun h23 => ?_
      refine gm h23 fun h7 => gq (.nsq (.seq (rg (gm h6 fun h24 => gm h7 fun h25 => ?_))))
      obtain ⟨r_12, E_r_12, h⟩ := bind_some h
      refine g_call (m := 0) (al := false) (r := (Enc.enc (r_12 : Int))) [Enc.enc (e_10 : Int), Enc.enc (e_11 : Int)] (ta_cons (v := (ji e_10)) h24 rfl rfl (ta_cons (v := (ji e_11)) h25 rfl rfl ta_nil)) (H.c153 _ _ _ E_r_12) H.g153 rfl rfl rfl rfl ?_
      refine gm (rfl : (_ : V) = (ji r_12)) fun h8 => ?_
      refine gq (.nsq (.seq (rg (gm h8 fun h27 => g1 27 (jb (r_12 != 0)) h27 fun h28 => ?_))))
      refine gq (.nsq (run_cond (t := (r_12 != 0)) h28 h (fun h => ?_) (fun h => ?_)))
      · refine .seq (rg (gm h8 fun h29 => gm h29 fun h4 => gq (.nsq (.ret ?_))))
        have hr := Option.some.inj h
        subst hr
        exact rrA (res_tmp h4) rfl
      refine .skip (.nbk (.nsq (rg (g1 11 (ji (w64 (x_6 + 1))) h11 fun h30 => ?_))))
      refine gm h30 fun h11 => gq (.nlp ?_)
      exact ih (w64 (x_6 + 1)) _ ⟨h0, h1, h4, h9, h10, h11⟩ h
    refine .exit (.esq (.elp (.ebk (.nsq (.seq (.seq (rg (gm h0 fun h31 => gv (ji (x_1.length : Int)) (ev_len (xs := x_1) h31) fun h32 => ?_))))))))
    refine gm h1 fun h33 => gv (ji (x_2.length : Int)) (ev_len (xs := x_2) h33) fun h34 => ?_
    refine g2 32 34 (jb (decide ((x_1.length : Int) < (x_2.length : Int)))) h32 h34 fun h35 => ?_
    refine gq (.nsq (run_cond (t := decide ((x_1.length : Int) < (x_2.length : Int))) h35 h (fun h => ?_) (fun h => ?_)))
    · refine .seq (rg (g0 (ji (-1)) fun h4 => ?_))
      refine gq (.nsq (.ret ?_))
      have hr := Option.some.inj h
      subst hr
      exact rrA (res_tmp h4) rfl
    refine .skip (.nsq (.seq (rg (g0 (ji 0) fun h4 => gq (.nsq (.ret ?_))))))
    have hr := Option.some.inj h
    subst hr
    exact rrA (res_tmp h4) rfl
def slices_Compare (F : Nat) (x_1 : (List Int)) (x_2 : (List Int)) : Option Int :=
  slices_Compare_l1 F x_1 x_2 F 0
theorem t94 (H : H94 D σ F) (x_1 : (List Int)) (x_2 : (List Int)) (s : Nat → V) (hs : Facts [(0, (eL x_1)), (1, (eL x_2))] s) (h : slices_Compare F x_1 x_2 = some r) : Run D σ (R94 r) (.run A94 []) s := by
  unfold slices_Compare at h
  obtain ⟨h0, h1⟩ := hs
  refine .seq (rg (g0 (ji 0) fun h4 => gq (.nsq (.seq (.seq (rg (gm h0 fun h9 => gv (ji (x_1.length : Int)) (ev_len (xs := x_1) h9) fun h10 => ?_)))))))
  refine g0 (ji 0) fun h11 => gq (.nsq (.block (.loop ?_)))
  exact t_f94_l1 H x_1 x_2 F 0 _ ⟨h0, h1, h4, h9, h10, h11⟩ h
end
def e94 (F : Nat) : Ent := ent 94 (fun (x : ((List Int) × (List Int) × Unit)) => slices_Compare F x.1 x.2.1) (fun (r : Int) => (Enc.enc (r : Int))) 0 false []
theorem p94 {F : Nat} {x0 : (List Int)} {x1 : (List Int)} {r : Int} (h : slices_Compare F x0 x1 = some r) : (e94 F).den [Enc.enc x0, Enc.enc x1] = some (Enc.enc (r : Int)) := ent_put (x0, x1, ()) h
theorem o94 {D : Den} {σ : Sig} {F : Nat} (hF : Fits2 Try.prog D σ) (H : H94 D σ F) : (e94 F).Ok Try.prog := by
  refine ok_of (f := 94) (show unk 94 = 94 from rfl) (fun args r h => ?_) ⟨Try.f94, Try.func94, rfl, rfl⟩
  obtain ⟨⟨x0, x1, _⟩, y, rfl, hy, rfl⟩ := da_open h
  exact contract_run hF (by kernel_rfl) Try.func94 rfl c94 (show 2 ≤ Try.f94.ntmps by decide) (t94 H x0 x1 _ ⟨rfl, rfl⟩ hy)
/- loop.example/g01109/impl.IsGraph -/
def A63_5 : AC := (.cond (.t 48) (.seq (.reg [] [((jv 2 (.mov (.k (.bool false)))))] []) .ret) .skip)
def A63_4 : AC := (.seq (.reg [] [((jv 17 (.idxA (.t 4) (jn 0) 2 1))), ((jv 18 (.load .s (.t 17)))), ((jv 19 (.bin .lss (.t 18) (jn 0)))), (jm 20 19), ((jg 21 20 false (.idxA (.t 4) (jn 0) 2 1))), ((jg 22 20 false (.load .s (.t 21)))), ((jg 23 20 false (.idxA (.t 4) (jn 1) 2 1))), ((jg 24 20 false (.load .s (.t 23)))), ((jg 25 20 false (.bin .geq (.t 22) (.t 24)))), ((jv 26 (.pick (.t 20) (.k (.bool true)) (.t 25)))), (jm 27 26), ((jg 28 27 false (.idxA (.t 4) (jn 1) 2 1))), ((jg 29 27 false (.load .s (.t 28)))), ((jg 30 27 false (.fld (.t 1) 0 0))), ((jg 31 27 false (.load .s (.t 30)))), ((jg 32 27 false (.bin .geq (.t 29) (.t 31)))), ((jv 33 (.pick (.t 27) (.k (.bool true)) (.t 32)))), (jm 34 33), ((jg 35 34 false (.mov (.t 3)))), ((jg 36 34 false (.bin .gtr (.t 35) (jn 0)))), ((jg 37 34 false (.mov (.t 36)))), ((jg 38 37 true (.fld (.t 1) 1 1))), ((jg 39 37 true (.load .p (.t 38)))), ((jg 40 37 true (.mov (.t 3)))), ((jg 41 37 true (.bin .sub (.t 40) (jn 1)))), ((jg 42 37 true (.idx (.t 39) (.t 41) 2))), ((jg 43 37 true (.sliceA (.t 42) 2 .s))), ((jg 44 37 true (.sliceA (.t 4) 2 .s))), (.mk (some 45) (some (37, true)) false (.call (.k (.fn 94 [] [])) [(.t 43), (.t 44)])), ((jg 46 37 true (.bin .geq (.t 45) (jn 0)))), ((jg 47 34 false (.pick (.t 37) (.t 46) (.k (.bool false))))), ((jv 48 (.pick (.t 34) (.k (.bool true)) (.t 47))))] []) A63_5)
def A63_6 : AC := (.reg [] [((jv 49 (.bin .add (.t 12) (jn 1)))), (jm 12 49)] [])
def A63_3 : AC := (.seq (.block 1 (.seq (.reg [.clr [4]] [(jm 14 12), ((jv 15 (.idx (.t 10) (.t 12) 2))), ((jv 16 (.load (.ag [.s, .s]) (.t 15)))), (.mk (some 4) none false (.alloc (.agg [(.int .i64 (.ofNat 0)), (.int .i64 (.ofNat 0))]))), (jm 3 14), (.mk none none false (.store (.ag [.s, .s]) (.t 4) (.t 16)))] []) A63_4)) A63_6)
def A63_2 : AC := (.seq (.cond (.t 13) .skip (.exit 0)) A63_3)
def A63_1 : AC := (.seq (.reg [] [((jv 13 (.bin .lss (.t 12) (.t 11))))] []) A63_2)
def A63_7 : AC := (.seq (.reg [] [((jv 2 (.mov (.k (.bool true)))))] []) .ret)
def A63_9 : AC := (.cond (.t 8) (.seq (.reg [] [((jv 2 (.mov (.k (.bool false)))))] []) .ret) .skip)
def A63_11 : AC := (.block 0 (.loop A63_1))
def A63_10 : AC := (.seq (.seq (.reg [] [((jv 9 (.fld (.t 1) 1 1))), ((jv 10 (.load .p (.t 9)))), ((jv 11 (.len (.t 10)))), ((jv 12 (.mov (jn 0))))] []) A63_11) A63_7)
def A63_8 : AC := (.seq (.seq (.reg [] [((jv 5 (.fld (.t 1) 0 0))), ((jv 6 (.load .s (.t 5)))), (.mk (some 7) none false (.call (.k (.fn 105 [] [])) [(.t 6), (jn 0), (jn 8)])), ((jv 8 (.un .not (.t 7))))] []) A63_9) A63_10)
def A63 : AC := (.seq (.reg [.clr [1]] [(.mk (some 1) none false (.box (.t 0))), ((jv 2 (.mov (.k (.bool false)))))] []) A63_8)
def an63 : List An := [{ id := 0, pre := [.clr [1]], ep := [], lin := [], sp := [] }, { id := 5, pre := [.clr [4]], ep := [], lin := [], sp := [] }]
theorem c63 : cC Try.prog Try.f63.ntmps an63 (Try.f63.body.getD .skip) = some A63 := by kernel_rfl
structure H63 (D : Den) (σ : Sig) (F : Nat) : Prop where
  c105 : ∀ (x0 : Int) (x1 : Int) (x2 : Int) r, i_within F x0 x1 x2 = some r → D 105 [Enc.enc x0, Enc.enc x1, Enc.enc x2] = some (Enc.enc (r : Bool))
  g105 : σ 105 = some (0, false)
  c94 : ∀ (x0 : (List Int)) (x1 : (List Int)) r, slices_Compare F x0 x1 = some r → D 94 [Enc.enc x0, Enc.enc x1] = some (Enc.enc (r : Int))
  g94 : σ 94 = some (0, false)
abbrev R63 (r : Bool) : (Nat → V) → Prop := RR Try.prog [.tmp 2] 0 false (Enc.enc (r : Bool))
section
variable {D : Den} {σ : Sig} {F : Nat} {r : Bool}
def i_IsGraph_j1 (F : Nat) (x_1 : (Int × (List (Int × Int)))) (x_9 : Int) (c1 : Int → Option Bool) (x_19 : Bool) : Option Bool :=
  bif x_19 then
    some false
  else
    c1 (w64 (x_9 + 1))
theorem t_f63_j1 (H : H63 D σ F) (x_1 : (Int × (List (Int × Int)))) (x_9 : Int) (c1 : Int → Option Bool) (Hc1 : ∀ (x_9 : Int) (s : Nat → V), Facts [(1, (.ref (.bx 1) 0 [] (.agg [(ji x_1.1), (Enc.enc (x_1.2 : List (Int × Int)))]))), (2, (jb false)), (10, (Enc.enc (x_1.2 : List (Int × Int)))), (11, (ji (x_1.2.length : Int))), (12, (ji x_9))] s → c1 x_9 = some r → Run D σ (R63 r) (.run A63_1 [.lp A63_1, .bk 0, .sq A63_7]) s) (x_19 : Bool) (s : Nat → V) (hs : Facts [(1, (.ref (.bx 1) 0 [] (.agg [(ji x_1.1), (Enc.enc (x_1.2 : List (Int × Int)))]))), (2, (jb false)), (10, (Enc.enc (x_1.2 : List (Int × Int)))), (11, (ji (x_1.2.length : Int))), (12, (ji x_9)), (48, (jb x_19))] s) (h : i_IsGraph_j1 F x_1 x_9 c1 x_19 = some r) : Run D σ (R63 r) (.nrm [.sq A63_5, .bk 1, .sq A63_6, .lp A63_1, .bk 0, .sq A63_7]) s := by
  unfold i_IsGraph_j1 at h
  obtain ⟨h1, h2, h10, h11, h12, h48⟩ := hs
  refine .nsq (run_cond (t := x_19) h48 h (fun h => ?_) (fun h => ?_))
  · refine .seq (rg (g0 (jb false) fun h2 => ?_))
    refine gq (.nsq (.ret ?_))
    have hr := Option.some.inj h
    subst hr
    exact rrA (res_tmp h2) rfl
  refine .skip (.nbk (.nsq (rg (g1 12 (ji (w64 (x_9 + 1))) h12 fun h49 => ?_))))
  refine gm h49 fun h12 => gq (.nlp ?_)
  exact Hc1 (w64 (x_9 + 1)) _ ⟨h1, h2, h10, h11, h12⟩ h
def i_IsGraph_l1 (F : Nat) (x_1 : (Int × (List (Int × Int))))  : Nat → Int → Option Bool
  | 0, _ => none
  | k + 1, x_9 =>
    bif decide (x_9 < (x_1.2.length : Int)) then
      (idx x_1.2 x_9).bind fun e_16 =>
      bif decide (e_16.1 < 0) then
        i_IsGraph_j1 F x_1 x_9 (i_IsGraph_l1 F x_1 k) true
      else
        bif decide (e_16.1 ≥ e_16.2) then
          i_IsGraph_j1 F x_1 x_9 (i_IsGraph_l1 F x_1 k) true
        else
          bif decide (e_16.2 ≥ x_1.1) then
            i_IsGraph_j1 F x_1 x_9 (i_IsGraph_l1 F x_1 k) true
          else
            bif decide (x_9 > 0) then
              (idx x_1.2 (w64 (x_9 - 1))).bind fun e_20 =>
              (slices_Compare F [e_20.1, e_20.2] [e_16.1, e_16.2]).bind fun r_21 =>
              i_IsGraph_j1 F x_1 x_9 (i_IsGraph_l1 F x_1 k) (decide (r_21 ≥ 0))
            else
              i_IsGraph_j1 F x_1 x_9 (i_IsGraph_l1 F x_1 k) false
    else
      some true
theorem t_f63_l1 (H : H63 D σ F) (x_1 : (Int × (List (Int × Int))))  : ∀ (k : Nat) (x_9 : Int) (s : Nat → V), Facts [(1, (.ref (.bx 1) 0 [] (.agg [(ji x_1.1), (Enc.enc (x_1.2 : List (Int × Int)))]))), (2, (jb false)), (10, (Enc.enc (x_1.2 : List (Int × Int)))), (11, (ji (x_1.2.length : Int))), (12, (ji x_9))] s → i_IsGraph_l1 F x_1 k x_9 = some r → Run D σ (R63 r) (.run A63_1 [.lp A63_1, .bk 0, .sq A63_7]) s := by
  intro k
  induction k with
  | zero => intro x_9 s _ h; exact nomatch (h : (none : Option _) = some r)
  | succ k ih =>
    intro x_9 s hs h
    rw [i_IsGraph_l1] at h
    obtain ⟨h1, h2, h10, h11, h12⟩ := hs
    refine .seq (rg (g2 12 11 (jb (decide (x_9 < (x_1.2.length : Int)))) h12 h11 fun h13 => ?_))
    refine gq (.nsq (.seq (run_cond (t := decide (x_9 < (x_1.2.length : Int))) h13 h (fun h => ?_) (fun h => ?_))))
    · refine .skip (.nsq (.seq (.block (.seq (run_reg ?_)))))
      refine e_clr ?_
      refine ez [(1, _), (2, _), (4, _), (10, _), (11, _), (12, _)] ⟨(keep_clear (pk := [4]) h1 rfl (map_bx rfl (map_agg (maps_cons mi (maps_cons me maps_nil))))), (keep_clear (pk := [4]) h2 rfl mb), (gone_clear (pk := [4]) (t := 4) rfl), (keep_clear (pk := [4]) h10 rfl me), (keep_clear (pk := [4]) h11 rfl mi), (keep_clear (pk := [4]) h12 rfl mi)⟩ ?_
      rintro s ⟨h1, h2, h4, h10, h11, h12⟩
      refine gm h12 fun h14 => ?_
      obtain ⟨e_16, E_e_16, h⟩ := bind_some h
      refine gv (.ref .sh 0 [] (.agg [(ji e_16.1), (ji e_16.2)])) (ev_idx (t := .sh) (lo := 0) (xs := x_1.2) h10 h12 E_e_16 rfl rfl) fun h15 => ?_
      refine g1 15 (.agg [(ji e_16.1), (ji e_16.2)]) h15 fun h16 => ?_
      refine g_alloc h4 ?_
      refine gm h14 fun h3 => g_store (.agg [(ji e_16.1), (ji e_16.2)]) (rd_of rfl rfl) (rd_of h16 rfl) (by refine ⟨by decide, by decide, rfl, rfl, rfl, ?_⟩; first | rfl | simp [V.toks, V.tokss, Enc.toks_enc]) ?_
      refine gz [(1, (.ref (.bx 1) 0 [] (.agg [(ji x_1.1), (Enc.enc (x_1.2 : List (Int × Int)))]))), (2, (jb false)), (3, (ji x_9)), (4, (.ref (.bx 4) 0 [] (.agg [(ji e_16.1), (ji e_16.2)]))), (10, (Enc.enc (x_1.2 : List (Int × Int)))), (11, (ji (x_1.2.length : Int))), (12, (ji x_9))] ⟨(keep_mut h1 (mut_ref_ne rfl rfl (mut_agg (muts_cons rfl (muts_cons (Enc.mut_enc _ _ _ _ (x_1.2 : List (Int × Int))) rfl))))), (keep_mut h2 rfl), (keep_mut h3 rfl), (keep_mut rfl rfl), (keep_mut h10 (Enc.mut_enc _ _ _ _ (x_1.2 : List (Int × Int)))), (keep_mut h11 rfl), (keep_mut h12 rfl)⟩ ?_
      rintro s ⟨h1, h2, h3, h4, h10, h11, h12⟩
      refine .nsq (.seq (rg (g1 4 (.ref (.bx 4) 0 [0] (ji e_16.1)) h4 fun h17 => ?_)))
      refine g1 17 (ji e_16.1) h17 fun h18 => ?_
      refine g1 18 (jb (decide (e_16.1 < 0))) h18 fun h19 => ?_
      refine gm h19 fun h20 => split_on (c := decide (e_16.1 < 0)) h (fun hg4 h => ?_) (fun hg4 h => ?_)
      · refine g_no (h20.trans (congrArg V.bool hg4)) ?_
        refine g_no (h20.trans (congrArg V.bool hg4)) ?_
        refine g_no (h20.trans (congrArg V.bool hg4)) ?_
        refine g_no (h20.trans (congrArg V.bool hg4)) ?_
        refine g_no (h20.trans (congrArg V.bool hg4)) ?_
        refine g2 20 25 (jb true) (h20.trans (congrArg V.bool hg4)) (rfl : (_ : V) = (.tup [])) fun h26 => ?_
        refine gm h26 fun h27 => g_no h27 ?_
        refine g_no h27 ?_
        refine g_no h27 ?_
        refine g_no h27 ?_
        refine g_no h27 ?_
        refine g2 27 32 (jb true) h27 (rfl : (_ : V) = (.tup [])) fun h33 => ?_
        refine gm h33 fun h34 => g_no h34 ?_
        refine g_no h34 ?_
        refine g_no h34 ?_
        refine g_skip rfl ?_
        refine g_skip rfl ?_
        refine g_skip rfl ?_
        refine g_skip rfl ?_
        refine g_skip rfl ?_
        refine g_skip rfl ?_
        refine g_skip rfl ?_
        refine g_skip rfl ?_
        refine g_skip rfl ?_
        refine g_no h34 ?_
        refine g2 34 47 (jb true) h34 (rfl : (_ : V) = (.tup [])) fun h48 => ?_
        refine gz [(1, _), (2, _), (10, _), (11, _), (12, _), (48, _)] ⟨h1, h2, h10, h11, h12, h48⟩ ?_
        rintro s ⟨h1, h2, h10, h11, h12, h48⟩
        exact t_f63_j1 H x_1 x_9 (i_IsGraph_l1 F x_1 k) ih true _ ⟨h1, h2, h10, h11, h12, h48⟩ h
      refine g_yes (h20.trans (congrArg V.bool hg4)) (g1 4 (.ref (.bx 4) 0 [0] (ji e_16.1)) h4 fun h21 => ?_)
      refine g_yes (h20.trans (congrArg V.bool hg4)) (g1 21 (ji e_16.1) h21 fun h22 => ?_)
      refine g_yes (h20.trans (congrArg V.bool hg4)) (g1 4 (.ref (.bx 4) 0 [1] (ji e_16.2)) h4 fun h23 => ?_)
      refine g_yes (h20.trans (congrArg V.bool hg4)) (g1 23 (ji e_16.2) h23 fun h24 => ?_)
      refine g_yes (h20.trans (congrArg V.bool hg4)) (g2 22 24 (jb (decide (e_16.1 ≥ e_16.2))) h22 h24 fun h25 => ?_)
      refine g2 20 25 (jb (decide (e_16.1 ≥ e_16.2))) (h20.trans (congrArg V.bool hg4)) h25 fun h26 => ?_
      refine gm h26 fun h27 => split_on (c := decide (e_16.1 ≥ e_16.2)) h (fun hg11 h => ?_) (fun hg11 h => ?_)
      · refine g_no (h27.trans (congrArg V.bool hg11)) ?_
        refine g_no (h27.trans (congrArg V.bool hg11)) ?_
        refine g_no (h27.trans (congrArg V.bool hg11)) ?_
        refine g_no (h27.trans (congrArg V.bool hg11)) ?_
        refine g_no (h27.trans (congrArg V.bool hg11)) ?_
        refine g2 27 32 (jb true) (h27.trans (congrArg V.bool hg11)) (rfl : (_ : V) = (.tup [])) fun h33 => ?_
        refine gm h33 fun h34 => g_no h34 ?_
        refine g_no h34 ?_
        refine g_no h34 ?_
        refine g_skip rfl ?_
        refine g_skip rfl ?_
        refine g_skip rfl ?_
        refine g_skip rfl ?_
        refine g_skip rfl ?_
        refine g_skip rfl ?_
        refine g_skip rfl ?_
        refine g_skip rfl ?_
        refine g_skip rfl ?_
        refine g_no h34 ?_
        refine g2 34 47 (jb true) h34 (rfl : (_ : V) = (.tup [])) fun h48 => ?_
        refine gz [(1, _), (2, _), (10, _), (11, _), (12, _), (48, _)] ⟨h1, h2, h10, h11, h12, h48⟩ ?_
        rintro s ⟨h1, h2, h10, h11, h12, h48⟩
        exact t_f63_j1 H x_1 x_9 (i_IsGraph_l1 F x_1 k) ih true _ ⟨h1, h2, h10, h11, h12, h48⟩ h
      refine g_yes (h27.trans (congrArg V.bool hg11)) (g1 4 (.ref (.bx 4) 0 [1] (ji e_16.2)) h4 fun h28 => ?_)
      refine g_yes (h27.trans (congrArg V.bool hg11)) (g1 28 (ji e_16.2) h28 fun h29 => ?_)
      refine g_yes (h27.trans (congrArg V.bool hg11)) (g1 1 (.ref (.bx 1) 0 [0] (ji x_1.1)) h1 fun h30 => ?_)
      refine g_yes (h27.trans (congrArg V.bool hg11)) (g1 30 (ji x_1.1) h30 fun h31 => ?_)
      refine g_yes (h27.trans (congrArg V.bool hg11)) (g2 29 31 (jb (decide (e_16.2 ≥ x_1.1))) h29 h31 fun h32 => ?_)
      refine g2 27 32 (jb (decide (e_16.2 ≥ x_1.1))) (h27.trans (congrArg V.bool hg11)) h32 fun h33 => ?_
      refine gm h33 fun h34 => split_on (c := decide (e_16.2 ≥ x_1.1)) h (fun hg18 h => ?_) (fun hg18 h => ?_)
      · refine g_no (h34.trans (congrArg V.bool hg18)) ?_
        refine g_no (h34.trans (congrArg V.bool hg18)) ?_
        refine g_no (h34.trans (congrArg V.bool hg18)) ?_
        refine g_skip rfl ?_
        refine g_skip rfl ?_
        refine g_skip rfl ?_
        refine g_skip rfl ?_
        refine g_skip rfl ?_
        refine g_skip rfl ?_
        refine g_skip rfl ?_
        refine g_skip rfl ?_
        refine g_skip rfl ?_
        refine g_no (h34.trans (congrArg V.bool hg18)) ?_
        refine g2 34 47 (jb true) (h34.trans (congrArg V.bool hg18)) (rfl : (_ : V) = (.tup [])) fun h48 => ?_
        refine gz [(1, _), (2, _), (10, _), (11, _), (12, _), (48, _)] ⟨h1, h2, h10, h11, h12, h48⟩ ?_
        rintro s ⟨h1, h2, h10, h11, h12, h48⟩
        exact t_f63_j1 H x_1 x_9 (i_IsGraph_l1 F x_1 k) ih true _ ⟨h1, h2, h10, h11, h12, h48⟩ h
      refine g_yes (h34.trans (congrArg V.bool hg18)) (gm h3 fun h35 => ?_)
      refine g_yes (h34.trans (congrArg V.bool hg18)) (g1 35 (jb (decide (x_9 > 0))) h35 fun h36 => ?_)
      refine g_yes (h34.trans (congrArg V.bool hg18)) (gm h36 fun h37 => ?_)
      refine split_on (c := decide (x_9 > 0)) h (fun hg21 h => ?_) (fun hg21 h => ?_)
      · refine g_yes (h37.trans (congrArg V.bool hg21)) (g1 1 (.ref (.bx 1) 0 [1] (Enc.enc (x_1.2 : List (Int × Int)))) h1 fun h38 => ?_)
        refine g_yes (h37.trans (congrArg V.bool hg21)) (g1 38 (Enc.enc (x_1.2 : List (Int × Int))) h38 fun h39 => ?_)
        refine g_yes (h37.trans (congrArg V.bool hg21)) (gm h3 fun h40 => ?_)
        refine g_yes (h37.trans (congrArg V.bool hg21)) (g1 40 (ji (w64 (x_9 - 1))) h40 fun h41 => ?_)
        obtain ⟨e_20, E_e_20, h⟩ := bind_some h
        refine g_yes (h37.trans (congrArg V.bool hg21)) (gv (.ref .sh 0 [] (.agg [(ji e_20.1), (ji e_20.2)])) (ev_idx (t := .sh) (lo := 0) (xs := x_1.2) h39 h41 E_e_20 rfl rfl) fun h42 => ?_)
        refine g_yes (h37.trans (congrArg V.bool hg21)) (g1 42 (eL [e_20.1, e_20.2]) h42 fun h43 => ?_)
        refine g_yes (h37.trans (congrArg V.bool hg21)) (g1 4 (encO (.bx 4) (.of ([e_16.1, e_16.2] : List Int))) h4 fun h44 => ?_)
        obtain ⟨r_21, E_r_21, h⟩ := bind_some h
        refine g_yes (h37.trans (congrArg V.bool hg21)) (g_call (m := 0) (al := false) (r := (Enc.enc (r_21 : Int))) [Enc.enc ([e_20.1, e_20.2] : (List Int)), Enc.enc ([e_16.1, e_16.2] : (List Int))] (ta_cons (v := (eL [e_20.1, e_20.2])) h43 rfl (Enc.erase_enc ([e_20.1, e_20.2] : (List Int))) (ta_cons (v := (encO (.bx 4) (.of ([e_16.1, e_16.2] : List Int)))) h44 rfl (erase_encO (o := .of [e_16.1, e_16.2])) ta_nil)) (H.c94 _ _ _ E_r_21) H.g94 rfl rfl rfl rfl ?_)
        refine g_yes (h37.trans (congrArg V.bool hg21)) (g1 45 (jb (decide (r_21 ≥ 0))) (rfl : (_ : V) = (ji r_21)) fun h46 => ?_)
        refine g_yes (h34.trans (congrArg V.bool hg18)) (g2 37 46 (jb (decide (r_21 ≥ 0))) (h37.trans (congrArg V.bool hg21)) h46 fun h47 => ?_)
        refine g2 34 47 (jb (decide (r_21 ≥ 0))) (h34.trans (congrArg V.bool hg18)) h47 fun h48 => ?_
        refine gz [(1, _), (2, _), (10, _), (11, _), (12, _), (48, _)] ⟨h1, h2, h10, h11, h12, h48⟩ ?_
        rintro s ⟨h1, h2, h10, h11, h12, h48⟩
        exact t_f63_j1 H x_1 x_9 (i_IsGraph_l1 F x_1 k) ih (decide (r_21 ≥ 0)) _ ⟨h1, h2, h10, h11, h12, h48⟩ h
      refine g_no (h37.trans (congrArg V.bool hg21)) ?_
      refine g_no (h37.trans (congrArg V.bool hg21)) ?_
      refine g_no (h37.trans (congrArg V.bool hg21)) ?_
      refine g_no (h37.trans (congrArg V.bool hg21)) ?_
      refine g_no (h37.trans (congrArg V.bool hg21)) ?_
      refine g_no (h37.trans (congrArg V.bool hg21)) ?_
      refine g_no (h37.trans (congrArg V.bool hg21)) ?_
      refine g_no (h37.trans (congrArg V.bool hg21)) ?_
      refine g_no (h37.trans (congrArg V.bool hg21)) ?_
      refine g_yes (h34.trans (congrArg V.bool hg18)) (g2 37 46 (jb false) (h37.trans (congrArg V.bool hg21)) (rfl : (_ : V) = (.tup [])) fun h47 => ?_)
      refine g2 34 47 (jb false) (h34.trans (congrArg V.bool hg18)) h47 fun h48 => ?_
      refine gz [(1, _), (2, _), (10, _), (11, _), (12, _), (48, _)] ⟨h1, h2, h10, h11, h12, h48⟩ ?_
      rintro s ⟨h1, h2, h10, h11, h12, h48⟩
      exact t_f63_j1 H x_1 x_9 (i_IsGraph_l1 F x_1 k) ih false _ ⟨h1, h2, h10, h11, h12, h48⟩ h
    refine .exit (.esq (.elp (.ebk (.nsq (.seq (rg (g0 (jb true) fun h2 => ?_)))))))
    refine gq (.nsq (.ret ?_))
    have hr := Option.some.inj h
    subst hr
    exact rrA (res_tmp h2) rfl
def i_IsGraph (F : Nat) (x_1 : (Int × (List (Int × Int)))) : Option Bool :=
  (i_within F x_1.1 0 8).bind fun r_2 =>
  bif (!r_2) then
    some false
  else
    i_IsGraph_l1 F x_1 F 0
theorem t63 (H : H63 D σ F) (x_1 : (Int × (List (Int × Int)))) (s : Nat → V) (hs : Facts [(0, (.agg [(ji x_1.1), (Enc.enc (x_1.2 : List (Int × Int)))]))] s) (h : i_IsGraph F x_1 = some r) : Run D σ (R63 r) (.run A63 []) s := by
  unfold i_IsGraph at h
  have h0 := hs
  refine .seq (run_reg ?_)
  refine e_clr ?_
  refine ez [(0, _), (1, _)] ⟨(keep_clear (pk := [1]) h0 rfl (map_agg (maps_cons mi (maps_cons me maps_nil)))), (gone_clear (pk := [1]) (t := 1) rfl)⟩ ?_
  rintro s ⟨h0, h1⟩
  refine g_box (.agg [(ji x_1.1), (Enc.enc (x_1.2 : List (Int × Int)))]) (rd_of h0 rfl) h1 rfl ?_
  refine g0 (jb false) fun h2 => ?_
  refine gq (.nsq (.seq (.seq (rg (g1 1 (.ref (.bx 1) 0 [0] (ji x_1.1)) (rfl : (_ : V) = (.ref (.bx 1) 0 [] (.agg [(ji x_1.1), (Enc.enc (x_1.2 : List (Int × Int)))]))) fun h5 => ?_)))))
  refine g1 5 (ji x_1.1) h5 fun h6 => ?_
  obtain ⟨r_2, E_r_2, h⟩ := bind_some h
  refine g_call (m := 0) (al := false) (r := (Enc.enc (r_2 : Bool))) [Enc.enc (x_1.1 : Int), Enc.enc (0 : Int), Enc.enc (8 : Int)] (ta_cons (v := (ji x_1.1)) h6 rfl rfl (ta_cons (v := (ji 0)) rfl rfl rfl (ta_cons (v := (ji 8)) rfl rfl rfl ta_nil))) (H.c105 _ _ _ _ E_r_2) H.g105 rfl rfl rfl rfl ?_
  refine g1 7 (jb (!r_2)) (rfl : (_ : V) = (jb r_2)) fun h8 => ?_
  refine gq (.nsq (run_cond (t := (!r_2)) h8 h (fun h => ?_) (fun h => ?_)))
  · refine .seq (rg (g0 (jb false) fun h2 => ?_))
    refine gq (.nsq (.ret ?_))
    have hr := Option.some.inj h
    subst hr
    exact rrA (res_tmp h2) rfl
  refine .skip (.nsq (.seq (.seq (rg (g1 1 (.ref (.bx 1) 0 [1] (Enc.enc (x_1.2 : List (Int × Int)))) (rfl : (_ : V) = (.ref (.bx 1) 0 [] (.agg [(ji x_1.1), (Enc.enc (x_1.2 : List (Int × Int)))]))) fun h9 => ?_)))))
  refine g1 9 (Enc.enc (x_1.2 : List (Int × Int))) h9 fun h10 => ?_
  refine gv (ji (x_1.2.length : Int)) (ev_len (xs := x_1.2) h10) fun h11 => ?_
  refine g0 (ji 0) fun h12 => gq (.nsq (.block (.loop ?_)))
  exact t_f63_l1 H x_1 F 0 _ ⟨rfl, h2, h10, h11, h12⟩ h
end
def e63 (F : Nat) : Ent := ent 63 (fun (x : ((Int × (List (Int × Int))) × Unit)) => i_IsGraph F x.1) (fun (r : Bool) => (Enc.enc (r : Bool))) 0 false []
theorem p63 {F : Nat} {x0 : (Int × (List (Int × Int)))} {r : Bool} (h : i_IsGraph F x0 = some r) : (e63 F).den [Enc.enc x0] = some (Enc.enc (r : Bool)) := ent_put (x0, ()) h
theorem o63 {D : Den} {σ : Sig} {F : Nat} (hF : Fits2 Try.prog D σ) (H : H63 D σ F) : (e63 F).Ok Try.prog := by
  refine ok_of (f := 63) (show unk 63 = 63 from rfl) (fun args r h => ?_) ⟨Try.f63, Try.func63, rfl, rfl⟩
  obtain ⟨⟨x0, _⟩, y, rfl, hy, rfl⟩ := da_open h
  exact contract_run hF (by kernel_rfl) Try.func63 rfl c63 (show 1 ≤ Try.f63.ntmps by decide) (t63 H x0 _ rfl hy)
/- loop.example/g01109/impl.allWithin -/
def A124_5 : AC := (.cond (.t 19) (.seq (.reg [] [((jv 6 (.mov (.k (.bool false)))))] []) .ret) .skip)
def A124_4 : AC := (.seq (.reg [] [(jm 15 8), (jm 16 1), (jm 17 2), (.mk (some 18) none false (.call (.k (.fn 105 [] [])) [(.t 15), (.t 16), (.t 17)])), ((jv 19 (.un .not (.t 18))))] []) A124_5)
def A124_6 : AC := (.reg [] [((jv 20 (.bin .add (.t 11) (jn 1)))), (jm 11 20)] [])
def A124_3 : AC := (.seq (.block 1 (.seq (.reg [] [((jv 13 (.idx (.t 9) (.t 11) 1))), ((jv 14 (.load .s (.t 13)))), (jm 8 14)] []) A124_4)) A124_6)
def A124_2 : AC := (.seq (.cond (.t 12) .skip (.exit 0)) A124_3)
def A124_1 : AC := (.seq (.reg [] [((jv 12 (.bin .lss (.t 11) (.t 10))))] []) A124_2)
def A124_7 : AC := (.seq (.reg [] [((jv 6 (.mov (.k (.bool true)))))] []) .ret)
def A124_9 : AC := (.block 0 (.loop A124_1))
def A124_8 : AC := (.seq (.seq (.reg [] [(jm 9 0), ((jv 10 (.len (.t 9)))), ((jv 11 (.mov (jn 0))))] []) A124_9) A124_7)
def A124 : AC := (.seq (.reg [] [((jv 6 (.mov (.k (.bool false)))))] []) A124_8)
def an124 : List An := []
theorem c124 : cC Try.prog Try.f124.ntmps an124 (Try.f124.body.getD .skip) = some A124 := by kernel_rfl
structure H124 (D : Den) (σ : Sig) (F : Nat) : Prop where
  c105 : ∀ (x0 : Int) (x1 : Int) (x2 : Int) r, i_within F x0 x1 x2 = some r → D 105 [Enc.enc x0, Enc.enc x1, Enc.enc x2] = some (Enc.enc (r : Bool))
  g105 : σ 105 = some (0, false)
abbrev R124 (r : Bool) : (Nat → V) → Prop := RR Try.prog [.tmp 6] 0 false (Enc.enc (r : Bool))
section
variable {D : Den} {σ : Sig} {F : Nat} {r : Bool}
def i_allWithin_l1 (F : Nat) (x_2 : Int) (x_3 : Int) (x_1 : (List Int))  : Nat → Int → Option Bool
  | 0, _ => none
  | k + 1, x_6 =>
    bif decide (x_6 < (x_1.length : Int)) then
      (idx x_1 x_6).bind fun e_9 =>
      (i_within F e_9 x_2 x_3).bind fun r_10 =>
      bif (!r_10) then
        some false
      else
        (i_allWithin_l1 F x_2 x_3 x_1 k) (w64 (x_6 + 1))
    else
      some true
theorem t_f124_l1 (H : H124 D σ F) (x_2 : Int) (x_3 : Int) (x_1 : (List Int))  : ∀ (k : Nat) (x_6 : Int) (s : Nat → V), Facts [(1, (ji x_2)), (2, (ji x_3)), (6, (jb false)), (9, (eL x_1)), (10, (ji (x_1.length : Int))), (11, (ji x_6))] s → i_allWithin_l1 F x_2 x_3 x_1 k x_6 = some r → Run D σ (R124 r) (.run A124_1 [.lp A124_1, .bk 0, .sq A124_7]) s := by
  intro k
  induction k with
  | zero => intro x_6 s _ h; exact nomatch (h : (none : Option _) = some r)
  | succ k ih =>
    intro x_6 s hs h
    rw [i_allWithin_l1] at h
    obtain ⟨h1, h2, h6, h9, h10, h11⟩ := hs
    refine .seq (rg (g2 11 10 (jb (decide (x_6 < (x_1.length : Int)))) h11 h10 fun h12 => ?_))
    refine gq (.nsq (.seq (run_cond (t := decide (x_6 < (x_1.length : Int))) h12 h (fun h => ?_) (fun h => ?_))))
    · refine .skip (.nsq (.seq (.block (.seq (rg ?_)))))
      obtain ⟨e_9, E_e_9, h⟩ := bind_some h
      refine gv (.ref .sh 0 [] (ji e_9)) (ev_idx (t := .sh) (lo := 0) (xs := x_1) h9 h11 E_e_9 rfl rfl) fun h13 => ?_
      refine g1 13 (ji e_9) h13 fun h14 => ?_
      refine gm h14 fun h8 => gq (.nsq (.seq (rg (gm h8 fun h15 => gm h1 fun h16 => gm h2 fun h17 => ?_))))
      obtain ⟨r_10, E_r_10, h⟩ := bind_some h
      refine g_call (m := 0) (al := false) (r := (Enc.enc (r_10 : Bool))) [Enc.enc (e_9 : Int), Enc.enc (x_2 : Int), Enc.enc (x_3 : Int)] (ta_cons (v := (ji e_9)) h15 rfl rfl (ta_cons (v := (ji x_2)) h16 rfl rfl (ta_cons (v := (ji x_3)) h17 rfl rfl ta_nil))) (H.c105 _ _ _ _ E_r_10) H.g105 rfl rfl rfl rfl ?_
      refine g1 18 (jb (!r_10)) (rfl : (_ : V) = (jb r_10)) fun h19 => ?_
      refine gq (.nsq (run_cond (t := (!r_10)) h19 h (fun h => ?_) (fun h => ?_)))
      · refine .seq (rg (g0 (jb false) fun h6 => ?_))
        refine gq (.nsq (.ret ?_))
        have hr := Option.some.inj h
        subst hr
        exact rrA (res_tmp h6) rfl
      refine .skip (.nbk (.nsq (rg (g1 11 (ji (w64 (x_6 + 1))) h11 fun h20 => ?_))))
      refine gm h20 fun h11 => gq (.nlp ?_)
      exact ih (w64 (x_6 + 1)) _ ⟨h1, h2, h6, h9, h10, h11⟩ h
    refine .exit (.esq (.elp (.ebk (.nsq (.seq (rg (g0 (jb true) fun h6 => ?_)))))))
    refine gq (.nsq (.ret ?_))
    have hr := Option.some.inj h
    subst hr
    exact rrA (res_tmp h6) rfl
def i_allWithin (F : Nat) (x_1 : (List Int)) (x_2 : Int) (x_3 : Int) : Option Bool :=
  i_allWithin_l1 F x_2 x_3 x_1 F 0
theorem t124 (H : H124 D σ F) (x_1 : (List Int)) (x_2 : Int) (x_3 : Int) (s : Nat → V) (hs : Facts [(0, (eL x_1)), (1, (ji x_2)), (2, (ji x_3))] s) (h : i_allWithin F x_1 x_2 x_3 = some r) : Run D σ (R124 r) (.run A124 []) s := by
  unfold i_allWithin at h
  obtain ⟨h0, h1, h2⟩ := hs
  refine .seq (rg (g0 (jb false) fun h6 => ?_))
  refine gq (.nsq (.seq (.seq (rg (gm h0 fun h9 => gv (ji (x_1.length : Int)) (ev_len (xs := x_1) h9) fun h10 => ?_)))))
  refine g0 (ji 0) fun h11 => gq (.nsq (.block (.loop ?_)))
  exact t_f124_l1 H x_2 x_3 x_1 F 0 _ ⟨h1, h2, h6, h9, h10, h11⟩ h
end
def e124 (F : Nat) : Ent := ent 124 (fun (x : ((List Int) × Int × Int × Unit)) => i_allWithin F x.1 x.2.1 x.2.2.1) (fun (r : Bool) => (Enc.enc (r : Bool))) 0 false []
theorem p124 {F : Nat} {x0 : (List Int)} {x1 : Int} {x2 : Int} {r : Bool} (h : i_allWithin F x0 x1 x2 = some r) : (e124 F).den [Enc.enc x0, Enc.enc x1, Enc.enc x2] = some (Enc.enc (r : Bool)) := ent_put (x0, x1, x2, ()) h
theorem o124 {D : Den} {σ : Sig} {F : Nat} (hF : Fits2 Try.prog D σ) (H : H124 D σ F) : (e124 F).Ok Try.prog := by
  refine ok_of (f := 124) (show unk 124 = 124 from rfl) (fun args r h => ?_) ⟨Try.f124, Try.func124, rfl, rfl⟩
  obtain ⟨⟨x0, x1, x2, _⟩, y, rfl, hy, rfl⟩ := da_open h
  exact contract_run hF (by kernel_rfl) Try.func124 rfl c124 (show 3 ≤ Try.f124.ntmps by decide) (t124 H x0 x1 x2 _ ⟨rfl, rfl, rfl⟩ hy)
/- loop.example/g01109/impl.maskOf -/
def A93_4 : AC := (.reg [] [(jm 12 3), (jm 13 5), ((jv 14 (.bin .shl (jn 1) (.t 13)))), ((jv 15 (.bin .or (.t 12) (.t 14)))), (jm 3 15)] [])
def A93_5 : AC := (.reg [] [((jv 16 (.bin .add (.t 8) (jn 1)))), (jm 8 16)] [])
def A93_3 : AC := (.seq (.block 1 (.seq (.reg [] [((jv 10 (.idx (.t 6) (.t 8) 1))), ((jv 11 (.load .s (.t 10)))), (jm 5 11)] []) A93_4)) A93_5)
def A93_2 : AC := (.seq (.cond (.t 9) .skip (.exit 0)) A93_3)
def A93_1 : AC := (.seq (.reg [] [((jv 9 (.bin .lss (.t 8) (.t 7))))] []) A93_2)
def A93_6 : AC := (.seq (.reg [] [(jm 17 3), (jm 2 17)] []) .ret)
def A93_9 : AC := (.block 0 (.loop A93_1))
def A93_8 : AC := (.seq (.seq (.reg [] [(jm 6 0), ((jv 7 (.len (.t 6)))), ((jv 8 (.mov (jn 0))))] []) A93_9) A93_6)
def A93_7 : AC := (.seq (.reg [] [((jv 3 (.mov (jn 0))))] []) A93_8)
def A93 : AC := (.seq (.reg [] [((jv 2 (.mov (jn 0))))] []) A93_7)
def an93 : List An := []
theorem c93 : cC Try.prog Try.f93.ntmps an93 (Try.f93.body.getD .skip) = some A93 := by kernel_rfl
structure H93 (D : Den) (σ : Sig) (F : Nat) : Prop where
  mk ::
abbrev R93 (r : Int) : (Nat → V) → Prop := RR Try.prog [.tmp 2] 0 false (Enc.enc (r : Int))
section
variable {D : Den} {σ : Sig} {F : Nat} {r : Int}
def i_maskOf_l1 (F : Nat) (x_1 : (List Int))  : Nat → Int → Int → Option Int
  | 0, _, _ => none
  | k + 1, x_4, x_5 =>
    bif decide (x_5 < (x_1.length : Int)) then
      (idx x_1 x_5).bind fun e_8 =>
      (shlI .i64 1 e_8).bind fun q_9 =>
      (i_maskOf_l1 F x_1 k) (ior .i64 x_4 q_9) (w64 (x_5 + 1))
    else
      some x_4
theorem t_f93_l1 (H : H93 D σ F) (x_1 : (List Int))  : ∀ (k : Nat) (x_4 : Int) (x_5 : Int) (s : Nat → V), Facts [(2, (ji 0)), (3, (ji x_4)), (6, (eL x_1)), (7, (ji (x_1.length : Int))), (8, (ji x_5))] s → i_maskOf_l1 F x_1 k x_4 x_5 = some r → Run D σ (R93 r) (.run A93_1 [.lp A93_1, .bk 0, .sq A93_6]) s := by
  intro k
  induction k with
  | zero => intro x_4 x_5 s _ h; exact nomatch (h : (none : Option _) = some r)
  | succ k ih =>
    intro x_4 x_5 s hs h
    rw [i_maskOf_l1] at h
    obtain ⟨h2, h3, h6, h7, h8⟩ := hs
    refine .seq (rg (g2 8 7 (jb (decide (x_5 < (x_1.length : Int)))) h8 h7 fun h9 => ?_))
    refine gq (.nsq (.seq (run_cond (t := decide (x_5 < (x_1.length : Int))) h9 h (fun h => ?_) (fun h => ?_))))
    · refine .skip (.nsq (.seq (.block (.seq (rg ?_)))))
      obtain ⟨e_8, E_e_8, h⟩ := bind_some h
      refine gv (.ref .sh 0 [] (ji e_8)) (ev_idx (t := .sh) (lo := 0) (xs := x_1) h6 h8 E_e_8 rfl rfl) fun h10 => ?_
      refine g1 10 (ji e_8) h10 fun h11 => ?_
      refine gm h11 fun h5 => gq (.nsq (rg (gm h3 fun h12 => gm h5 fun h13 => ?_)))
      obtain ⟨q_9, E_q_9, h⟩ := bind_some h
      refine gv (ji q_9) (ev_shl rfl h13 E_q_9) fun h14 => ?_
      refine g2 12 14 (ji (ior .i64 x_4 q_9)) h12 h14 fun h15 => ?_
      refine gm h15 fun h3 => gq (.nbk (.nsq (rg (g1 8 (ji (w64 (x_5 + 1))) h8 fun h16 => ?_))))
      refine gm h16 fun h8 => gq (.nlp ?_)
      exact ih (ior .i64 x_4 q_9) (w64 (x_5 + 1)) _ ⟨h2, h3, h6, h7, h8⟩ h
    refine .exit (.esq (.elp (.ebk (.nsq (.seq (rg (gm h3 fun h17 => gm h17 fun h2 => gq (.nsq (.ret ?_)))))))))
    have hr := Option.some.inj h
    subst hr
    exact rrA (res_tmp h2) rfl
def i_maskOf (F : Nat) (x_1 : (List Int)) : Option Int :=
  i_maskOf_l1 F x_1 F 0 0
theorem t93 (H : H93 D σ F) (x_1 : (List Int)) (s : Nat → V) (hs : Facts [(0, (eL x_1))] s) (h : i_maskOf F x_1 = some r) : Run D σ (R93 r) (.run A93 []) s := by
  unfold i_maskOf at h
  have h0 := hs
  refine .seq (rg (g0 (ji 0) fun h2 => gq (.nsq (.seq (rg (g0 (ji 0) fun h3 => gq (.nsq (.seq (.seq (rg (gm h0 fun h6 => gv (ji (x_1.length : Int)) (ev_len (xs := x_1) h6) fun h7 => ?_)))))))))))
  refine g0 (ji 0) fun h8 => gq (.nsq (.block (.loop ?_)))
  exact t_f93_l1 H x_1 F 0 0 _ ⟨h2, h3, h6, h7, h8⟩ h
end
def e93 (F : Nat) : Ent := ent 93 (fun (x : ((List Int) × Unit)) => i_maskOf F x.1) (fun (r : Int) => (Enc.enc (r : Int))) 0 false []
theorem p93 {F : Nat} {x0 : (List Int)} {r : Int} (h : i_maskOf F x0 = some r) : (e93 F).den [Enc.enc x0] = some (Enc.enc (r : Int)) := ent_put (x0, ()) h
theorem o93 {D : Den} {σ : Sig} {F : Nat} (hF : Fits2 Try.prog D σ) (H : H93 D σ F) : (e93 F).Ok Try.prog := by
  refine ok_of (f := 93) (show unk 93 = 93 from rfl) (fun args r h => ?_) ⟨Try.f93, Try.func93, rfl, rfl⟩
  obtain ⟨⟨x0, _⟩, y, rfl, hy, rfl⟩ := da_open h
  exact contract_run hF (by kernel_rfl) Try.func93 rfl c93 (show 1 ≤ Try.f93.ntmps by decide) (t93 H x0 _ rfl hy)
/- loop.example/g01109/impl.isOrder -/
def A64_1 : AC := (.seq (.reg [] [(jm 5 1), ((jv 6 (.len (.t 5)))), ((jv 7 (.fld (.t 2) 0 0))), ((jv 8 (.load .s (.t 7)))), ((jv 9 (.bin .eql (.t 6) (.t 8)))), (jm 10 9), ((jg 11 10 true (.mov (.t 1)))), ((jg 12 10 true (.fld (.t 2) 0 0))), ((jg 13 10 true (.load .s (.t 12)))), ((jg 14 10 true (.bin .sub (.t 13) (jn 1)))), (.mk (some 15) (some (10, true)) false (.call (.k (.fn 124 [] [])) [(.t 11), (jn 0), (.t 14)])), ((jv 16 (.pick (.t 10) (.t 15) (.k (.bool false))))), (jm 17 16), ((jg 18 17 true (.mov (.t 1)))), (.mk (some 19) (some (17, true)) false (.call (.k (.fn 93 [] [])) [(.t 18)])), ((jg 20 17 true (.fld (.t 2) 0 0))), ((jg 21 17 true (.load .s (.t 20)))), ((jg 22 17 true (.bin .shl (jn 1) (.t 21)))), ((jg 23 17 true (.bin .sub (.t 22) (jn 1)))), ((jg 24 17 true (.bin .eql (.t 19) (.t 23)))), ((jv 25 (.pick (.t 17) (.t 24) (.k (.bool false))))), (jm 4 25)] []) .ret)
def A64 : AC := (.seq (.reg [.clr [2]] [(.mk (some 2) none false (.box (.t 0))), ((jv 4 (.mov (.k (.bool false)))))] []) A64_1)
def an64 : List An := [{ id := 0, pre := [.clr [2]], ep := [], lin := [], sp := [] }]
theorem c64 : cC Try.prog Try.f64.ntmps an64 (Try.f64.body.getD .skip) = some A64 := by kernel_rfl
structure H64 (D : Den) (σ : Sig) (F : Nat) : Prop where
  c124 : ∀ (x0 : (List Int)) (x1 : Int) (x2 : Int) r, i_allWithin F x0 x1 x2 = some r → D 124 [Enc.enc x0, Enc.enc x1, Enc.enc x2] = some (Enc.enc (r : Bool))
  g124 : σ 124 = some (0, false)
  c93 : ∀ (x0 : (List Int)) r, i_maskOf F x0 = some r → D 93 [Enc.enc x0] = some (Enc.enc (r : Int))
  g93 : σ 93 = some (0, false)
abbrev R64 (r : Bool) : (Nat → V) → Prop := RR Try.prog [.tmp 4] 0 false (Enc.enc (r : Bool))
section
variable {D : Den} {σ : Sig} {F : Nat} {r : Bool}
def i_isOrder (F : Nat) (x_1 : (Int × (List (Int × Int)))) (x_2 : (List Int)) : Option Bool :=
  bif ((x_2.length : Int) == x_1.1) then
    (i_allWithin F x_2 0 (w64 (x_1.1 - 1))).bind fun r_3 =>
    bif r_3 then
      (i_maskOf F x_2).bind fun r_4 =>
      (shlI .i64 1 x_1.1).bind fun q_5 =>
      some (r_4 == (w64 (q_5 - 1)))
    else
      some false
  else
    some false
theorem t64 (H : H64 D σ F) (x_1 : (Int × (List (Int × Int)))) (x_2 : (List Int)) (s : Nat → V) (hs : Facts [(0, (.agg [(ji x_1.1), (Enc.enc (x_1.2 : List (Int × Int)))])), (1, (eL x_2))] s) (h : i_isOrder F x_1 x_2 = some r) : Run D σ (R64 r) (.run A64 []) s := by
  unfold i_isOrder at h
  obtain ⟨h0, h1⟩ := hs
  refine .seq (run_reg ?_)
  refine e_clr ?_
  refine ez [(0, _), (1, _), (2, _)] ⟨(keep_clear (pk := [2]) h0 rfl (map_agg (maps_cons mi (maps_cons me maps_nil)))), (keep_clear (pk := [2]) h1 rfl me), (gone_clear (pk := [2]) (t := 2) rfl)⟩ ?_
  rintro s ⟨h0, h1, h2⟩
  refine g_box (.agg [(ji x_1.1), (Enc.enc (x_1.2 : List (Int × Int)))]) (rd_of h0 rfl) h2 rfl ?_
  refine g0 (jb false) fun h4 => ?_
  refine gq (.nsq (.seq (rg (gm h1 fun h5 => gv (ji (x_2.length : Int)) (ev_len (xs := x_2) h5) fun h6 => ?_))))
  refine g1 2 (.ref (.bx 2) 0 [0] (ji x_1.1)) (rfl : (_ : V) = (.ref (.bx 2) 0 [] (.agg [(ji x_1.1), (Enc.enc (x_1.2 : List (Int × Int)))]))) fun h7 => ?_
  refine g1 7 (ji x_1.1) h7 fun h8 => ?_
  refine g2 6 8 (jb ((x_2.length : Int) == x_1.1)) h6 h8 fun h9 => ?_
  refine gm h9 fun h10 => split_on (c := ((x_2.length : Int) == x_1.1)) h (fun hg6 h => ?_) (fun hg6 h => ?_)
  · refine g_yes (h10.trans (congrArg V.bool hg6)) (gm h1 fun h11 => ?_)
    refine g_yes (h10.trans (congrArg V.bool hg6)) (g1 2 (.ref (.bx 2) 0 [0] (ji x_1.1)) (rfl : (_ : V) = (.ref (.bx 2) 0 [] (.agg [(ji x_1.1), (Enc.enc (x_1.2 : List (Int × Int)))]))) fun h12 => ?_)
    refine g_yes (h10.trans (congrArg V.bool hg6)) (g1 12 (ji x_1.1) h12 fun h13 => ?_)
    refine g_yes (h10.trans (congrArg V.bool hg6)) (g1 13 (ji (w64 (x_1.1 - 1))) h13 fun h14 => ?_)
    obtain ⟨r_3, E_r_3, h⟩ := bind_some h
    refine g_yes (h10.trans (congrArg V.bool hg6)) (g_call (m := 0) (al := false) (r := (Enc.enc (r_3 : Bool))) [Enc.enc (x_2 : (List Int)), Enc.enc (0 : Int), Enc.enc (w64 (x_1.1 - 1) : Int)] (ta_cons (v := (eL x_2)) h11 rfl (Enc.erase_enc (x_2 : (List Int))) (ta_cons (v := (ji 0)) rfl rfl rfl (ta_cons (v := (ji (w64 (x_1.1 - 1)))) h14 rfl rfl ta_nil))) (H.c124 _ _ _ _ E_r_3) H.g124 rfl rfl rfl rfl ?_)
    refine g2 10 15 (jb r_3) (h10.trans (congrArg V.bool hg6)) (rfl : (_ : V) = (jb r_3)) fun h16 => ?_
    refine gm h16 fun h17 => split_on (c := r_3) h (fun hg13 h => ?_) (fun hg13 h => ?_)
    · refine g_yes (h17.trans (congrArg V.bool hg13)) (gm h1 fun h18 => ?_)
      obtain ⟨r_4, E_r_4, h⟩ := bind_some h
      refine g_yes (h17.trans (congrArg V.bool hg13)) (g_call (m := 0) (al := false) (r := (Enc.enc (r_4 : Int))) [Enc.enc (x_2 : (List Int))] (ta_cons (v := (eL x_2)) h18 rfl (Enc.erase_enc (x_2 : (List Int))) ta_nil) (H.c93 _ _ E_r_4) H.g93 rfl rfl rfl rfl ?_)
      refine g_yes (h17.trans (congrArg V.bool hg13)) (g1 2 (.ref (.bx 2) 0 [0] (ji x_1.1)) (rfl : (_ : V) = (.ref (.bx 2) 0 [] (.agg [(ji x_1.1), (Enc.enc (x_1.2 : List (Int × Int)))]))) fun h20 => ?_)
      refine g_yes (h17.trans (congrArg V.bool hg13)) (g1 20 (ji x_1.1) h20 fun h21 => ?_)
      obtain ⟨q_5, E_q_5, h⟩ := bind_some h
      refine g_yes (h17.trans (congrArg V.bool hg13)) (gv (ji q_5) (ev_shl rfl h21 E_q_5) fun h22 => ?_)
      refine g_yes (h17.trans (congrArg V.bool hg13)) (g1 22 (ji (w64 (q_5 - 1))) h22 fun h23 => ?_)
      refine g_yes (h17.trans (congrArg V.bool hg13)) (g2 19 23 (jb (r_4 == (w64 (q_5 - 1)))) (rfl : (_ : V) = (ji r_4)) h23 fun h24 => ?_)
      refine g2 17 24 (jb (r_4 == (w64 (q_5 - 1)))) (h17.trans (congrArg V.bool hg13)) h24 fun h25 => ?_
      refine gm h25 fun h4 => gq (.nsq (.ret ?_))
      have hr := Option.some.inj h
      subst hr
      exact rrA (res_tmp h4) rfl
    refine g_no (h17.trans (congrArg V.bool hg13)) ?_
    refine g_no (h17.trans (congrArg V.bool hg13)) ?_
    refine g_no (h17.trans (congrArg V.bool hg13)) ?_
    refine g_no (h17.trans (congrArg V.bool hg13)) ?_
    refine g_no (h17.trans (congrArg V.bool hg13)) ?_
    refine g_no (h17.trans (congrArg V.bool hg13)) ?_
    refine g_no (h17.trans (congrArg V.bool hg13)) ?_
    refine g2 17 24 (jb false) (h17.trans (congrArg V.bool hg13)) (rfl : (_ : V) = (.tup [])) fun h25 => ?_
    refine gm h25 fun h4 => gq (.nsq (.ret ?_))
    have hr := Option.some.inj h
    subst hr
    exact rrA (res_tmp h4) rfl
  refine g_no (h10.trans (congrArg V.bool hg6)) ?_
  refine g_no (h10.trans (congrArg V.bool hg6)) ?_
  refine g_no (h10.trans (congrArg V.bool hg6)) ?_
  refine g_no (h10.trans (congrArg V.bool hg6)) ?_
  refine g_no (h10.trans (congrArg V.bool hg6)) ?_
  refine g2 10 15 (jb false) (h10.trans (congrArg V.bool hg6)) (rfl : (_ : V) = (.tup [])) fun h16 => ?_
  refine gm h16 fun h17 => g_no h17 ?_
  refine g_no h17 ?_
  refine g_no h17 ?_
  refine g_no h17 ?_
  refine g_no h17 ?_
  refine g_no h17 ?_
  refine g_no h17 ?_
  refine g2 17 24 (jb false) h17 (rfl : (_ : V) = (.tup [])) fun h25 => ?_
  refine gm h25 fun h4 => gq (.nsq (.ret ?_))
  have hr := Option.some.inj h
  subst hr
  exact rrA (res_tmp h4) rfl
end
def e64 (F : Nat) : Ent := ent 64 (fun (x : ((Int × (List (Int × Int))) × (List Int) × Unit)) => i_isOrder F x.1 x.2.1) (fun (r : Bool) => (Enc.enc (r : Bool))) 0 false []
theorem p64 {F : Nat} {x0 : (Int × (List (Int × Int)))} {x1 : (List Int)} {r : Bool} (h : i_isOrder F x0 x1 = some r) : (e64 F).den [Enc.enc x0, Enc.enc x1] = some (Enc.enc (r : Bool)) := ent_put (x0, x1, ()) h
theorem o64 {D : Den} {σ : Sig} {F : Nat} (hF : Fits2 Try.prog D σ) (H : H64 D σ F) : (e64 F).Ok Try.prog := by
  refine ok_of (f := 64) (show unk 64 = 64 from rfl) (fun args r h => ?_) ⟨Try.f64, Try.func64, rfl, rfl⟩
  obtain ⟨⟨x0, x1, _⟩, y, rfl, hy, rfl⟩ := da_open h
  exact contract_run hF (by kernel_rfl) Try.func64 rfl c64 (show 2 ≤ Try.f64.ntmps by decide) (t64 H x0 x1 _ ⟨rfl, rfl⟩ hy)
/- loop.example/g01109/impl.netOf -/
def A65_5 : AC := (.reg [] [((jv 28 (.fld (.t 3) 0 0))), ((jv 29 (.load .p (.t 28)))), ((jv 30 (.idxA (.t 5) (jn 1) 2 1))), ((jv 31 (.load .s (.t 30)))), ((jv 32 (.idx (.t 29) (.t 31) 1))), ((jv 33 (.load .s (.t 32)))), ((jv 34 (.idxA (.t 5) (jn 0) 2 1))), ((jv 35 (.load .s (.t 34)))), ((jv 36 (.bin .shl (jn 1) (.t 35)))), ((jv 37 (.bin .or (.t 33) (.t 36)))), ((jv 38 (.idx (.t 29) (.t 31) 1))), (.mk none none false (.store .s (.t 38) (.t 37)))] [])
def A65_4 : AC := (.seq (.reg [] [((jv 17 (.fld (.t 3) 0 0))), ((jv 18 (.load .p (.t 17)))), ((jv 19 (.idxA (.t 5) (jn 0) 2 1))), ((jv 20 (.load .s (.t 19)))), ((jv 21 (.idx (.t 18) (.t 20) 1))), ((jv 22 (.load .s (.t 21)))), ((jv 23 (.idxA (.t 5) (jn 1) 2 1))), ((jv 24 (.load .s (.t 23)))), ((jv 25 (.bin .shl (jn 1) (.t 24)))), ((jv 26 (.bin .or (.t 22) (.t 25)))), ((jv 27 (.idx (.t 18) (.t 20) 1))), (.mk none none false (.store .s (.t 27) (.t 26)))] []) A65_5)
def A65_6 : AC := (.reg [] [((jv 39 (.bin .add (.t 13) (jn 1)))), (jm 13 39)] [])
def A65_3 : AC := (.seq (.block 1 (.seq (.reg [.clr [5]] [((jv 15 (.idx (.t 11) (.t 13) 2))), ((jv 16 (.load (.ag [.s, .s]) (.t 15)))), (.mk (some 5) none false (.alloc (.agg [(.int .i64 (.ofNat 0)), (.int .i64 (.ofNat 0))]))), (.mk none none false (.store (.ag [.s, .s]) (.t 5) (.t 16)))] []) A65_4)) A65_6)
def A65_2 : AC := (.seq (.cond (.t 14) .skip (.exit 0)) A65_3)
def A65_1 : AC := (.seq (.reg [] [((jv 14 (.bin .lss (.t 13) (.t 12))))] []) A65_2)
def A65_7 : AC := (.seq (.reg [] [((jv 40 (.load (.ag [.p]) (.t 3)))), (.mk none none false (.store (.ag [.p]) (.t 2) (.t 40)))] []) .ret)
def A65_10 : AC := (.block 0 (.loop A65_1))
def A65_9 : AC := (.seq (.seq (.reg [] [((jv 10 (.fld (.t 1) 1 1))), ((jv 11 (.load .p (.t 10)))), ((jv 12 (.len (.t 11)))), ((jv 13 (.mov (jn 0))))] []) A65_10) A65_7)
def A65_8 : AC := (.seq (.reg [.clr [8, 3]] [((jv 6 (.fld (.t 1) 0 0))), ((jv 7 (.load .s (.t 6)))), (.mk (some 8) none false (.mk (.t 7) (.int .i64 (.ofNat 0)) (.int .i64 (.ofNat 0)))), ((jv 9 (.bld (.agg [(.sl .nl .s 0 [])]) [(0, 0, (.t 8))]))), (.mk (some 3) none false (.alloc (.agg [(.sl .nl .s 0 [])]))), (.mk none none false (.store (.ag [.p]) (.t 3) (.t 9)))] []) A65_9)
def A65 : AC := (.seq (.reg [.clr [1, 2]] [(.mk (some 1) none false (.box (.t 0))), (.mk (some 2) none false (.alloc (.agg [(.sl .nl .s 0 [])])))] []) A65_8)
def an65 : List An := [{ id := 0, pre := [.clr [1, 2]], ep := [], lin := [], sp := [] }, { id := 1, pre := [.clr [8, 3]], ep := [], lin := [], sp := [] }, { id := 4, pre := [.clr [5]], ep := [], lin := [], sp := [] }]
theorem c65 : cC Try.prog Try.f65.ntmps an65 (Try.f65.body.getD .skip) = some A65 := by kernel_rfl
structure H65 (D : Den) (σ : Sig) (F : Nat) : Prop where
  mk ::
abbrev R65 (r : (S1 (List Int))) : (Nat → V) → Prop := RR Try.prog [.cell 2 71] 0 false (Enc.enc (r : (S1 (List Int))))
section
variable {D : Den} {σ : Sig} {F : Nat} {r : (S1 (List Int))}
def i_netOf_l1 (F : Nat) (x_1 : (Int × (List (Int × Int))))  : Nat → (List Int) → Int → Option (S1 (List Int))
  | 0, _, _ => none
  | k + 1, x_10, x_11 =>
    bif decide (x_11 < (x_1.2.length : Int)) then
      (idx x_1.2 x_11).bind fun e_19 =>
      (idx x_10 e_19.1).bind fun e_20 =>
      (shlI .i64 1 e_19.2).bind fun q_21 =>
      (idx x_10 e_19.1).bind fun e_22 =>
      (idx (x_10.set e_19.1.toNat (ior .i64 e_20 q_21)) e_19.2).bind fun e_23 =>
      (shlI .i64 1 e_19.1).bind fun q_24 =>
      (idx (x_10.set e_19.1.toNat (ior .i64 e_20 q_21)) e_19.2).bind fun e_25 =>
      (i_netOf_l1 F x_1 k) ((x_10.set e_19.1.toNat (ior .i64 e_20 q_21)).set e_19.2.toNat (ior .i64 e_23 q_24)) (w64 (x_11 + 1))
    else
      some (S1.mk x_10)
theorem t_f65_l1 (H : H65 D σ F) (x_1 : (Int × (List (Int × Int))))  : ∀ (k : Nat) (x_10 : (List Int)) (x_11 : Int) (s : Nat → V), Facts [(2, (.ref (.bx 2) 0 [] (.agg [(.sl .nl (Enc.shp Int) 0 [])]))), (3, (.ref (.bx 3) 0 [] (.agg [(oI 8 [] (.of x_10))]))), (11, (Enc.enc (x_1.2 : List (Int × Int)))), (12, (ji (x_1.2.length : Int))), (13, (ji x_11))] s → i_netOf_l1 F x_1 k x_10 x_11 = some r → Run D σ (R65 r) (.run A65_1 [.lp A65_1, .bk 0, .sq A65_7]) s := by
  intro k
  induction k with
  | zero => intro x_10 x_11 s _ h; exact nomatch (h : (none : Option _) = some r)
  | succ k ih =>
    intro x_10 x_11 s hs h
    rw [i_netOf_l1] at h
    obtain ⟨h2, h3, h11, h12, h13⟩ := hs
    refine .seq (rg (g2 13 12 (jb (decide (x_11 < (x_1.2.length : Int)))) h13 h12 fun h14 => ?_))
    refine gq (.nsq (.seq (run_cond (t := decide (x_11 < (x_1.2.length : Int))) h14 h (fun h => ?_) (fun h => ?_))))
    · refine .skip (.nsq (.seq (.block (.seq (run_reg ?_)))))
      refine e_clr ?_
      refine ez [(2, _), (3, _), (5, _), (11, _), (12, _), (13, _)] ⟨(keep_clear (pk := [5]) h2 rfl (map_bx rfl (map_agg (maps_cons rfl maps_nil)))), (keep_clear (pk := [5]) h3 rfl (map_bx rfl (map_agg (maps_cons (map_encO (r := 8) (p := []) rfl rfl) maps_nil)))), (gone_clear (pk := [5]) (t := 5) rfl), (keep_clear (pk := [5]) h11 rfl me), (keep_clear (pk := [5]) h12 rfl mi), (keep_clear (pk := [5]) h13 rfl mi)⟩ ?_
      rintro s ⟨h2, h3, h5, h11, h12, h13⟩
      obtain ⟨e_19, E_e_19, h⟩ := bind_some h
      refine gv (.ref .sh 0 [] (.agg [(ji e_19.1), (ji e_19.2)])) (ev_idx (t := .sh) (lo := 0) (xs := x_1.2) h11 h13 E_e_19 rfl rfl) fun h15 => ?_
      refine g1 15 (.agg [(ji e_19.1), (ji e_19.2)]) h15 fun h16 => ?_
      refine g_alloc h5 ?_
      refine g_store (.agg [(ji e_19.1), (ji e_19.2)]) (rd_of rfl rfl) (rd_of h16 rfl) (by refine ⟨by decide, by decide, rfl, rfl, rfl, ?_⟩; first | rfl | simp [V.toks, V.tokss, Enc.toks_enc]) ?_
      refine gz [(2, (.ref (.bx 2) 0 [] (.agg [(.sl .nl (Enc.shp Int) 0 [])]))), (3, (.ref (.bx 3) 0 [] (.agg [(oI 8 [] (.of x_10))]))), (5, (.ref (.bx 5) 0 [] (.agg [(ji e_19.1), (ji e_19.2)]))), (11, (Enc.enc (x_1.2 : List (Int × Int)))), (12, (ji (x_1.2.length : Int))), (13, (ji x_11))] ⟨(keep_mut h2 (mut_ref_ne rfl rfl (mut_agg (muts_cons rfl rfl)))), (keep_mut h3 (mut_ref_ne rfl rfl (mut_agg (muts_cons (mut_own_ne rfl rfl) rfl)))), (keep_mut rfl rfl), (keep_mut h11 (Enc.mut_enc _ _ _ _ (x_1.2 : List (Int × Int)))), (keep_mut h12 rfl), (keep_mut h13 rfl)⟩ ?_
      rintro s ⟨h2, h3, h5, h11, h12, h13⟩
      refine .nsq (.seq (rg (g1 3 (.ref (.bx 3) 0 [0] (oI 8 [] (.of x_10))) h3 fun h17 => ?_)))
      refine g1 17 (oI 8 [] (.of x_10)) h17 fun h18 => ?_
      refine g1 5 (.ref (.bx 5) 0 [0] (ji e_19.1)) h5 fun h19 => ?_
      refine g1 19 (ji e_19.1) h19 fun h20 => ?_
      obtain ⟨e_20, E_e_20, h⟩ := bind_some h
      refine gv (.ref (.at 8 []) e_19.1.toNat [] (ji e_20)) (ev_idxO (o := (.of x_10)) h18 h20 E_e_20 rfl) fun h21 => ?_
      refine g1 21 (ji e_20) h21 fun h22 => ?_
      refine g1 5 (.ref (.bx 5) 0 [1] (ji e_19.2)) h5 fun h23 => ?_
      refine g1 23 (ji e_19.2) h23 fun h24 => ?_
      obtain ⟨q_21, E_q_21, h⟩ := bind_some h
      refine gv (ji q_21) (ev_shl rfl h24 E_q_21) fun h25 => ?_
      refine g2 22 25 (ji (ior .i64 e_20 q_21)) h22 h25 fun h26 => ?_
      obtain ⟨e_22, E_e_22, h⟩ := bind_some h
      refine gv (.ref (.at 8 []) e_19.1.toNat [] (ji e_22)) (ev_idxO (o := (.of x_10)) h18 h20 E_e_22 rfl) fun h27 => ?_
      refine g_store (ji (ior .i64 e_20 q_21)) (rd_of h27 rfl) (rd_of h26 rfl) (by refine ⟨by decide, by decide, rfl, rfl, rfl, ?_⟩; first | rfl | simp [V.toks, V.tokss, Enc.toks_enc]) ?_
      refine gz [(2, (.ref (.bx 2) 0 [] (.agg [(.sl .nl (Enc.shp Int) 0 [])]))), (3, (.ref (.bx 3) 0 [] (.agg [(oI 8 [] (.of (x_10.set e_19.1.toNat (ior .i64 e_20 q_21))))]))), (5, (.ref (.bx 5) 0 [] (.agg [(ji e_19.1), (ji e_19.2)]))), (11, (Enc.enc (x_1.2 : List (Int × Int)))), (12, (ji (x_1.2.length : Int))), (13, (ji x_11))] ⟨(keep_mut h2 (mut_ref_ne rfl rfl (mut_agg (muts_cons rfl rfl)))), (keep_mut h3 (mut_ref_ne rfl rfl (mut_agg (muts_cons mut_own rfl)))), (keep_mut h5 rfl), (keep_mut h11 (Enc.mut_enc _ _ _ _ (x_1.2 : List (Int × Int)))), (keep_mut h12 rfl), (keep_mut h13 rfl)⟩ ?_
      rintro s ⟨h2, h3, h5, h11, h12, h13⟩
      refine .nsq (rg (g1 3 (.ref (.bx 3) 0 [0] (oI 8 [] (.of (x_10.set e_19.1.toNat (ior .i64 e_20 q_21))))) h3 fun h28 => ?_))
      refine g1 28 (oI 8 [] (.of (x_10.set e_19.1.toNat (ior .i64 e_20 q_21)))) h28 fun h29 => ?_
      refine g1 5 (.ref (.bx 5) 0 [1] (ji e_19.2)) h5 fun h30 => ?_
      refine g1 30 (ji e_19.2) h30 fun h31 => ?_
      obtain ⟨e_23, E_e_23, h⟩ := bind_some h
      refine gv (.ref (.at 8 []) e_19.2.toNat [] (ji e_23)) (ev_idxO (o := (.of (x_10.set e_19.1.toNat (ior .i64 e_20 q_21)))) h29 h31 E_e_23 rfl) fun h32 => ?_
      refine g1 32 (ji e_23) h32 fun h33 => ?_
      refine g1 5 (.ref (.bx 5) 0 [0] (ji e_19.1)) h5 fun h34 => ?_
      refine g1 34 (ji e_19.1) h34 fun h35 => ?_
      obtain ⟨q_24, E_q_24, h⟩ := bind_some h
      refine gv (ji q_24) (ev_shl rfl h35 E_q_24) fun h36 => ?_
      refine g2 33 36 (ji (ior .i64 e_23 q_24)) h33 h36 fun h37 => ?_
      obtain ⟨e_25, E_e_25, h⟩ := bind_some h
      refine gv (.ref (.at 8 []) e_19.2.toNat [] (ji e_25)) (ev_idxO (o := (.of (x_10.set e_19.1.toNat (ior .i64 e_20 q_21)))) h29 h31 E_e_25 rfl) fun h38 => ?_
      refine g_store (ji (ior .i64 e_23 q_24)) (rd_of h38 rfl) (rd_of h37 rfl) (by refine ⟨by decide, by decide, rfl, rfl, rfl, ?_⟩; first | rfl | simp [V.toks, V.tokss, Enc.toks_enc]) ?_
      refine gz [(2, (.ref (.bx 2) 0 [] (.agg [(.sl .nl (Enc.shp Int) 0 [])]))), (3, (.ref (.bx 3) 0 [] (.agg [(oI 8 [] (.of ((x_10.set e_19.1.toNat (ior .i64 e_20 q_21)).set e_19.2.toNat (ior .i64 e_23 q_24))))]))), (11, (Enc.enc (x_1.2 : List (Int × Int)))), (12, (ji (x_1.2.length : Int))), (13, (ji x_11))] ⟨(keep_mut h2 (mut_ref_ne rfl rfl (mut_agg (muts_cons rfl rfl)))), (keep_mut h3 (mut_ref_ne rfl rfl (mut_agg (muts_cons mut_own rfl)))), (keep_mut h11 (Enc.mut_enc _ _ _ _ (x_1.2 : List (Int × Int)))), (keep_mut h12 rfl), (keep_mut h13 rfl)⟩ ?_
      rintro s ⟨h2, h3, h11, h12, h13⟩
      refine .nbk (.nsq (rg (g1 13 (ji (w64 (x_11 + 1))) h13 fun h39 => ?_)))
      refine gm h39 fun h13 => gq (.nlp ?_)
      exact ih ((x_10.set e_19.1.toNat (ior .i64 e_20 q_21)).set e_19.2.toNat (ior .i64 e_23 q_24)) (w64 (x_11 + 1)) _ ⟨h2, h3, h11, h12, h13⟩ h
    refine .exit (.esq (.elp (.ebk (.nsq (.seq (rg (g1 3 (.agg [(oI 8 [] (.of x_10))]) h3 fun h40 => ?_)))))))
    refine g_store (.agg [(oI 8 [] (.of x_10))]) (rd_of h2 rfl) (rd_of h40 rfl) (by refine ⟨by decide, by decide, rfl, rfl, rfl, ?_⟩; first | rfl | simp [V.toks, V.tokss, Enc.toks_enc]) ?_
    refine gz [(2, (.ref (.bx 2) 0 [] (.agg [(oI 8 [] (.of x_10))])))] (keep_mut h2 rfl) ?_
    rintro s h2
    refine .nsq (.ret ?_)
    have hr := Option.some.inj h
    subst hr
    exact rrA (res_cell h2 (by kernel_rfl)) (fin_retF (fin_agg (fins_cons (fin_own (o := .of x_10)) fins_nil)) (mine_agg (mines_cons (mine_own rfl) mines_nil)))
def i_netOf (F : Nat) (x_1 : (Int × (List (Int × Int)))) : Option (S1 (List Int)) :=
  (mkN x_1.1 (0 : Int)).bind fun mk_2 =>
  i_netOf_l1 F x_1 F mk_2 0
theorem t65 (H : H65 D σ F) (x_1 : (Int × (List (Int × Int)))) (s : Nat → V) (hs : Facts [(0, (.agg [(ji x_1.1), (Enc.enc (x_1.2 : List (Int × Int)))]))] s) (h : i_netOf F x_1 = some r) : Run D σ (R65 r) (.run A65 []) s := by
  unfold i_netOf at h
  have h0 := hs
  refine .seq (run_reg ?_)
  refine e_clr ?_
  refine ez [(0, _), (1, _), (2, _)] ⟨(keep_clear (pk := [1, 2]) h0 rfl (map_agg (maps_cons mi (maps_cons me maps_nil)))), (gone_clear (pk := [1, 2]) (t := 1) rfl), (gone_clear (pk := [1, 2]) (t := 2) rfl)⟩ ?_
  rintro s ⟨h0, h1, h2⟩
  refine g_box (.agg [(ji x_1.1), (Enc.enc (x_1.2 : List (Int × Int)))]) (rd_of h0 rfl) h1 rfl ?_
  refine g_alloc h2 ?_
  refine gq (.nsq (.seq (run_reg ?_)))
  refine e_clr ?_
  refine ez [(1, _), (2, _), (3, _), (8, _)] ⟨(keep_clear (pk := [8, 3]) rfl rfl (map_bx rfl (map_agg (maps_cons mi (maps_cons me maps_nil))))), (keep_clear (pk := [8, 3]) rfl rfl (map_bx rfl (map_agg (maps_cons rfl maps_nil)))), (gone_clear (pk := [8, 3]) (t := 3) rfl), (gone_clear (pk := [8, 3]) (t := 8) rfl)⟩ ?_
  rintro s ⟨h1, h2, h3, h8⟩
  refine g1 1 (.ref (.bx 1) 0 [0] (ji x_1.1)) h1 fun h6 => ?_
  refine g1 6 (ji x_1.1) h6 fun h7 => ?_
  obtain ⟨mk_2, E_mk_2, h⟩ := bind_some h
  refine g_mk (0 : Int) h7 rfl h8 E_mk_2 ?_
  refine g1 8 (.agg [(oI 8 [] (.of mk_2))]) (rfl : (_ : V) = (oI 8 [] (.of mk_2))) fun h9 => ?_
  refine g_alloc h3 ?_
  refine g_store (.agg [(oI 8 [] (.of mk_2))]) (rd_of rfl rfl) (rd_of h9 rfl) (by refine ⟨by decide, by decide, rfl, rfl, rfl, ?_⟩; first | rfl | simp [V.toks, V.tokss, Enc.toks_enc]) ?_
  refine gz [(1, (.ref (.bx 1) 0 [] (.agg [(ji x_1.1), (Enc.enc (x_1.2 : List (Int × Int)))]))), (2, (.ref (.bx 2) 0 [] (.agg [(.sl .nl (Enc.shp Int) 0 [])]))), (3, (.ref (.bx 3) 0 [] (.agg [(oI 8 [] (.of mk_2))])))] ⟨(keep_mut h1 (mut_ref_ne rfl rfl (mut_agg (muts_cons rfl (muts_cons (Enc.mut_enc _ _ _ _ (x_1.2 : List (Int × Int))) rfl))))), (keep_mut h2 (mut_ref_ne rfl rfl (mut_agg (muts_cons rfl rfl)))), (keep_mut rfl rfl)⟩ ?_
  rintro s ⟨h1, h2, h3⟩
  refine .nsq (.seq (.seq (rg (g1 1 (.ref (.bx 1) 0 [1] (Enc.enc (x_1.2 : List (Int × Int)))) h1 fun h10 => ?_))))
  refine g1 10 (Enc.enc (x_1.2 : List (Int × Int))) h10 fun h11 => ?_
  refine gv (ji (x_1.2.length : Int)) (ev_len (xs := x_1.2) h11) fun h12 => ?_
  refine g0 (ji 0) fun h13 => gq (.nsq (.block (.loop ?_)))
  exact t_f65_l1 H x_1 F mk_2 0 _ ⟨h2, h3, h11, h12, h13⟩ h
end
def e65 (F : Nat) : Ent := ent 65 (fun (x : ((Int × (List (Int × Int))) × Unit)) => i_netOf F x.1) (fun (r : (S1 (List Int))) => (Enc.enc (r : (S1 (List Int))))) 0 false []
theorem p65 {F : Nat} {x0 : (Int × (List (Int × Int)))} {r : (S1 (List Int))} (h : i_netOf F x0 = some r) : (e65 F).den [Enc.enc x0] = some (Enc.enc (r : (S1 (List Int)))) := ent_put (x0, ()) h
theorem o65 {D : Den} {σ : Sig} {F : Nat} (hF : Fits2 Try.prog D σ) (H : H65 D σ F) : (e65 F).Ok Try.prog := by
  refine ok_of (f := 65) (show unk 65 = 65 from rfl) (fun args r h => ?_) ⟨Try.f65, Try.func65, rfl, rfl⟩
  obtain ⟨⟨x0, _⟩, y, rfl, hy, rfl⟩ := da_open h
  exact contract_run hF (by kernel_rfl) Try.func65 rfl c65 (show 1 ≤ Try.f65.ntmps by decide) (t65 H x0 _ rfl hy)
/- loop.example/g01109/impl.setOf -/
def A83_2 : AC := (.cond (.t 8) .skip (.exit 0))
def A83_4 : AC := (.cond (.t 15) (.reg [.clr [18, 19]] [(jm 16 3), (jm 17 4), (.mk (some 18) none false (.lit (.int .i64 (.ofNat 0)) 1 [(0, 0, (.t 17))])), (.mk (some 19) none false (.app .s (.t 16) (.t 18))), (jm 3 19)] [.home 19 3]) .skip)
def A83_5 : AC := (.reg [] [(jm 9 4), ((jv 10 (.bin .add (.t 9) (jn 1)))), (jm 4 10)] [])
def A83_3 : AC := (.seq (.block 1 (.seq (.reg [] [(jm 11 0), (jm 12 4), ((jv 13 (.bin .shr (.t 11) (.t 12)))), ((jv 14 (.bin .and (.t 13) (jn 1)))), ((jv 15 (.bin .eql (.t 14) (jn 1))))] []) A83_4)) A83_5)
def A83_1 : AC := (.seq (.seq (.reg [] [(jm 5 0), (jm 6 4), ((jv 7 (.bin .shr (.t 5) (.t 6)))), ((jv 8 (.bin .neq (.t 7) (jn 0))))] []) A83_2) A83_3)
def A83_6 : AC := (.seq (.reg [] [(jm 20 3), (jm 2 20)] [.home 3 2]) .ret)
def A83_9 : AC := (.block 0 (.loop A83_1))
def A83_8 : AC := (.seq (.seq (.reg [] [((jv 4 (.mov (jn 0))))] []) A83_9) A83_6)
def A83_7 : AC := (.seq (.reg [] [((jv 3 (.mov (.k (.sl .nl .s 0 [])))))] []) A83_8)
def A83 : AC := (.seq (.reg [] [((jv 2 (.mov (.k (.sl .nl .s 0 [])))))] []) A83_7)
def an83 : List An := [{ id := 6, pre := [.clr [18, 19]], ep := [.home 19 3], lin := [], sp := [] }, { id := 7, pre := [], ep := [.home 3 2], lin := [], sp := [] }]
theorem c83 : cC Try.prog Try.f83.ntmps an83 (Try.f83.body.getD .skip) = some A83 := by kernel_rfl
structure H83 (D : Den) (σ : Sig) (F : Nat) : Prop where
  mk ::
abbrev R83 (r : (List Int)) : (Nat → V) → Prop := RR Try.prog [.tmp 2] 0 false (Enc.enc (r : (List Int)))
section
variable {D : Den} {σ : Sig} {F : Nat} {r : (List Int)}
def i_setOf_j1 (F : Nat) (x_1 : Int) (x_8 : Int) (c1 : (NL Int) → Int → Option (List Int)) (x_17 : (NL Int)) : Option (List Int) :=
  c1 x_17 (w64 (x_8 + 1))
theorem t_f83_j1 (H : H83 D σ F) (x_1 : Int) (x_8 : Int) (c1 : (NL Int) → Int → Option (List Int)) (Hc1 : ∀ (x_7 : (NL Int)) (x_8 : Int) (s : Nat → V), Facts [(0, (ji x_1)), (2, (.sl .nl (Enc.shp Int) 0 [])), (3, (oI 3 [] x_7)), (4, (ji x_8))] s → c1 x_7 x_8 = some r → Run D σ (R83 r) (.run A83_1 [.lp A83_1, .bk 0, .sq A83_6]) s) (x_17 : (NL Int)) (s : Nat → V) (hs : Facts [(0, (ji x_1)), (2, (.sl .nl (Enc.shp Int) 0 [])), (3, (oI 3 [] x_17)), (4, (ji x_8))] s) (h : i_setOf_j1 F x_1 x_8 c1 x_17 = some r) : Run D σ (R83 r) (.nrm [.bk 1, .sq A83_5, .lp A83_1, .bk 0, .sq A83_6]) s := by
  unfold i_setOf_j1 at h
  obtain ⟨h0, h2, h3, h4⟩ := hs
  refine .nbk (.nsq (rg (gm h4 fun h9 => g1 9 (ji (w64 (x_8 + 1))) h9 fun h10 => ?_)))
  refine gm h10 fun h4 => gq (.nlp ?_)
  exact Hc1 x_17 (w64 (x_8 + 1)) _ ⟨h0, h2, h3, h4⟩ h
def i_setOf_l1 (F : Nat) (x_1 : Int)  : Nat → (NL Int) → Int → Option (List Int)
  | 0, _, _ => none
  | k + 1, x_7, x_8 =>
    (shrI .i64 x_1 x_8).bind fun q_14 =>
    bif (q_14 != 0) then
      (shrI .i64 x_1 x_8).bind fun q_15 =>
      bif ((iand .i64 q_15 1) == 1) then
        (appL x_7.list [x_8]).bind fun ap_18 =>
        i_setOf_j1 F x_1 x_8 (i_setOf_l1 F x_1 k) (.of ap_18)
      else
        i_setOf_j1 F x_1 x_8 (i_setOf_l1 F x_1 k) x_7
    else
      some x_7.list
theorem t_f83_l1 (H : H83 D σ F) (x_1 : Int)  : ∀ (k : Nat) (x_7 : (NL Int)) (x_8 : Int) (s : Nat → V), Facts [(0, (ji x_1)), (2, (.sl .nl (Enc.shp Int) 0 [])), (3, (oI 3 [] x_7)), (4, (ji x_8))] s → i_setOf_l1 F x_1 k x_7 x_8 = some r → Run D σ (R83 r) (.run A83_1 [.lp A83_1, .bk 0, .sq A83_6]) s := by
  intro k
  induction k with
  | zero => intro x_7 x_8 s _ h; exact nomatch (h : (none : Option _) = some r)
  | succ k ih =>
    intro x_7 x_8 s hs h
    rw [i_setOf_l1] at h
    obtain ⟨h0, h2, h3, h4⟩ := hs
    refine .seq (.seq (rg (gm h0 fun h5 => gm h4 fun h6 => ?_)))
    obtain ⟨q_14, E_q_14, h⟩ := bind_some h
    refine gv (ji q_14) (ev_shr h5 h6 E_q_14) fun h7 => ?_
    refine g1 7 (jb (q_14 != 0)) h7 fun h8 => ?_
    refine gq (.nsq (run_cond (t := (q_14 != 0)) h8 h (fun h => ?_) (fun h => ?_)))
    · refine .skip (.nsq (.seq (.block (.seq (rg (gm h0 fun h11 => gm h4 fun h12 => ?_))))))
      obtain ⟨q_15, E_q_15, h⟩ := bind_some h
      refine gv (ji q_15) (ev_shr h11 h12 E_q_15) fun h13 => ?_
      refine g1 13 (ji (iand .i64 q_15 1)) h13 fun h14 => ?_
      refine g1 14 (jb ((iand .i64 q_15 1) == 1)) h14 fun h15 => ?_
      refine gq (.nsq (run_cond (t := ((iand .i64 q_15 1) == 1)) h15 h (fun h => ?_) (fun h => ?_)))
      · refine run_reg ?_
        refine e_clr ?_
        refine ez [(0, _), (2, _), (3, _), (4, _), (18, _), (19, _)] ⟨(keep_clear (pk := [18, 19]) h0 rfl mi), (keep_clear (pk := [18, 19]) h2 rfl rfl), (keep_clear (pk := [18, 19]) h3 rfl (map_encO (r := 3) (p := []) rfl rfl)), (keep_clear (pk := [18, 19]) h4 rfl mi), (gone_clear (pk := [18, 19]) (t := 18) rfl), (gone_clear (pk := [18, 19]) (t := 19) rfl)⟩ ?_
        rintro s ⟨h0, h2, h3, h4, h18, h19⟩
        refine gv (oI 3 [] x_7) (ev_mov h3 ok_encO) fun h16 => ?_
        refine gm h4 fun h17 => g_litL [(17, (ji x_8))] [Enc.enc (x_8 : Int)] h17 rfl rfl h18 ?_
        obtain ⟨ap_18, E_ap_18, h⟩ := bind_some h
        refine g_app (q := 3) (p := []) (o := (x_7 : NL Int)) (ys := ([x_8] : List Int)) (t2 := (.at 18 [])) (lo2 := 0) h16 rfl rfl h19 (appN_L (o := (x_7 : NL Int)) E_ap_18 (by split <;> simp)) (fun s_17 ha_17 => ?_)
        refine gm (rfl : (_ : V) = (oI 19 [] (.of ap_18))) fun h3 => ?_
        refine g_end ?_
        refine e_home (r := 19) (x := 3) (v := _) h3 rfl (fun s_18 hg_18 => ?_)
        refine ez [(0, (ji x_1)), (2, (.sl .nl (Enc.shp Int) 0 [])), (3, (oI 3 [] (.of ap_18))), (4, (ji x_8))] ⟨(hg_18 0 _ _ (show s_17 0 = (ji x_1) from keep_app ha_17 h0 mi) mi), (hg_18 2 _ (.sl .nl (Enc.shp Int) 0 []) (show s_17 2 = (.sl .nl (Enc.shp Int) 0 []) from keep_app ha_17 h2 rfl) rfl), (hg_18 3 _ _ h3 (map_encO (r := 19) (p := []) rfl rfl)), (hg_18 4 _ _ (show s_17 4 = (ji x_8) from keep_app ha_17 h4 mi) mi)⟩ ?_
        rintro s ⟨h0, h2, h3, h4⟩
        exact t_f83_j1 H x_1 x_8 (i_setOf_l1 F x_1 k) ih (.of ap_18) _ ⟨h0, h2, h3, h4⟩ h
      refine .skip ?_
      exact t_f83_j1 H x_1 x_8 (i_setOf_l1 F x_1 k) ih x_7 _ ⟨h0, h2, h3, h4⟩ h
    refine .exit (.esq (.elp (.ebk (.nsq (.seq (rg (gv (oI 3 [] x_7) (ev_mov h3 ok_encO) fun h20 => ?_)))))))
    refine gv (oI 3 [] x_7) (ev_mov h20 ok_encO) fun h2 => ?_
    refine g_end ?_
    refine e_home (r := 3) (x := 2) (v := _) h2 ok_encO (fun s_19 hg_19 => ?_)
    refine ez [(2, (oI 2 [] x_7))] (hg_19 2 _ _ h2 (map_encO (r := 3) (p := []) rfl rfl)) ?_
    rintro s h2
    refine .nsq (.ret ?_)
    have hr := Option.some.inj h
    subst hr
    exact rrA (res_tmp h2) (fin_retF (fin_own (o := x_7)) (mine_own rfl))
def i_setOf (F : Nat) (x_1 : Int) : Option (List Int) :=
  i_setOf_l1 F x_1 F .nil 0
theorem t83 (H : H83 D σ F) (x_1 : Int) (s : Nat → V) (hs : Facts [(0, (ji x_1))] s) (h : i_setOf F x_1 = some r) : Run D σ (R83 r) (.run A83 []) s := by
  unfold i_setOf at h
  have h0 := hs
  refine .seq (rg (g0 (.sl .nl (Enc.shp Int) 0 []) fun h2 => ?_))
  refine gq (.nsq (.seq (rg (g0 (.sl .nl (Enc.shp Int) 0 []) fun h3 => ?_))))
  refine gq (.nsq (.seq (.seq (rg (g0 (ji 0) fun h4 => gq (.nsq (.block (.loop ?_))))))))
  exact t_f83_l1 H x_1 F .nil 0 _ ⟨h0, h2, h3, h4⟩ h
end
def e83 (F : Nat) : Ent := ent 83 (fun (x : (Int × Unit)) => i_setOf F x.1) (fun (r : (List Int)) => (Enc.enc (r : (List Int)))) 0 false []
theorem p83 {F : Nat} {x0 : Int} {r : (List Int)} (h : i_setOf F x0 = some r) : (e83 F).den [Enc.enc x0] = some (Enc.enc (r : (List Int))) := ent_put (x0, ()) h
theorem o83 {D : Den} {σ : Sig} {F : Nat} (hF : Fits2 Try.prog D σ) (H : H83 D σ F) : (e83 F).Ok Try.prog := by
  refine ok_of (f := 83) (show unk 83 = 83 from rfl) (fun args r h => ?_) ⟨Try.f83, Try.func83, rfl, rfl⟩
  obtain ⟨⟨x0, _⟩, y, rfl, hy, rfl⟩ := da_open h
  exact contract_run hF (by kernel_rfl) Try.func83 rfl c83 (show 1 ≤ Try.f83.ntmps by decide) (t83 H x0 _ rfl hy)
end Go.Zq
