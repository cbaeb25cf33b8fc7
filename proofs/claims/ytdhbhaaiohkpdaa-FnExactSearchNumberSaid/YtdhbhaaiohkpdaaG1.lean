/- Functions of the program as typed functions, and that the machine runs as they say (part 1). No further condition. -/
import Derived.Test.YtdhbhaaiohkpdaaK3
import Derived.Test.YtdhbhaaiohkpdaaProg
import Derived.Test.YtdhbhaaiohkpdaaChecked
import Derived.KernelRfl
set_option linter.unusedVariables false
set_option linter.unusedSimpArgs false
/- Functions of the program, as typed functions, and that the machine runs as they say. -/
namespace Go.Zq
open Go.Proofs
/- loop.example/g01109/laws.szIntA2S -/
def A59_3 : AC := (.cond (.t 10) (.seq (.reg [] [((jv 4 (.mov (jn (-1)))))] []) .ret) .skip)
def A59_4 : AC := (.seq (.reg [] [(jm 11 1), (jm 4 11)] []) .ret)
def A59_2 : AC := (.seq (.seq (.reg [] [(jm 9 1), ((jv 10 (.bin .lss (.t 9) (jn 0))))] []) A59_3) A59_4)
def A59_1 : AC := (.seq (.reg [] [(jm 5 1), (jm 6 0), ((jv 7 (.len (.t 6)))), ((jv 8 (.bin .sub (.t 5) (.t 7)))), (jm 1 8)] []) A59_2)
def A59 : AC := (.seq (.reg [] [((jv 4 (.mov (jn 0))))] []) A59_1)
def an59 : List An := []
theorem c59 : cC Try.prog Try.f59.ntmps an59 (Try.f59.body.getD .skip) = some A59 := by kernel_rfl
structure H59 (D : Den) (σ : Sig) (F : Nat) : Prop where
  mk ::
abbrev R59 (r : Int) : (Nat → V) → Prop := RR Try.prog [.tmp 4] 0 false (Enc.enc (r : Int))
section
variable {D : Den} {σ : Sig} {F : Nat} {r : Int}
def w_szIntA2S (F : Nat) (x_1 : (List (Int × Int))) (x_2 : Int) : Option Int :=
  bif decide ((w64 (x_2 - (x_1.length : Int))) < 0) then
    some (-1)
  else
    some (w64 (x_2 - (x_1.length : Int)))
theorem t59 (H : H59 D σ F) (x_1 : (List (Int × Int))) (x_2 : Int) (s : Nat → V) (hs : Facts [(0, (Enc.enc (x_1 : List (Int × Int)))), (1, (ji x_2))] s) (h : w_szIntA2S F x_1 x_2 = some r) : Run D σ (R59 r) (.run A59 []) s := by
  unfold w_szIntA2S at h
  obtain ⟨h0, h1⟩ := hs
  refine .seq (rg (g0 (ji 0) fun h4 => gq (.nsq (.seq (rg (gm h1 fun h5 => gm h0 fun h6 => gv (ji (x_1.length : Int)) (ev_len (xs := x_1) h6) fun h7 => ?_))))))
  refine g2 5 7 (ji (w64 (x_2 - (x_1.length : Int)))) h5 h7 fun h8 => ?_
  refine gm h8 fun h1 => gq (.nsq (.seq (.seq (rg (gm h1 fun h9 => g1 9 (jb (decide ((w64 (x_2 - (x_1.length : Int))) < 0))) h9 fun h10 => ?_)))))
  refine gq (.nsq (run_cond (t := decide ((w64 (x_2 - (x_1.length : Int))) < 0)) h10 h (fun h => ?_) (fun h => ?_)))
  · refine .seq (rg (g0 (ji (-1)) fun h4 => ?_))
    refine gq (.nsq (.ret ?_))
    have hr := Option.some.inj h
    subst hr
    exact rrA (res_tmp h4) rfl
  refine .skip (.nsq (.seq (rg (gm h1 fun h11 => gm h11 fun h4 => gq (.nsq (.ret ?_))))))
  have hr := Option.some.inj h
  subst hr
  exact rrA (res_tmp h4) rfl
end
def e59 (F : Nat) : Ent := ent 59 (fun (x : ((List (Int × Int)) × Int × Unit)) => w_szIntA2S F x.1 x.2.1) (fun (r : Int) => (Enc.enc (r : Int))) 0 false []
theorem p59 {F : Nat} {x0 : (List (Int × Int))} {x1 : Int} {r : Int} (h : w_szIntA2S F x0 x1 = some r) : (e59 F).den [Enc.enc x0, Enc.enc x1] = some (Enc.enc (r : Int)) := ent_put (x0, x1, ()) h
theorem o59 {D : Den} {σ : Sig} {F : Nat} (hF : Fits2 Try.prog D σ) (H : H59 D σ F) : (e59 F).Ok Try.prog := by
  refine ok_of (f := 59) (show unk 59 = 59 from rfl) (fun args r h => ?_) ⟨Try.f59, Try.func59, rfl, rfl⟩
  obtain ⟨⟨x0, x1, _⟩, y, rfl, hy, rfl⟩ := da_open h
  exact contract_run hF (by kernel_rfl) Try.func59 rfl c59 (show 2 ≤ Try.f59.ntmps by decide) (t59 H x0 x1 _ ⟨rfl, rfl⟩ hy)
/- loop.example/g01109/laws.szGraph -/
def A15_3 : AC := (.cond (.t 10) (.seq (.reg [] [((jv 4 (.mov (jn (-1)))))] []) .ret) .skip)
def A15_4 : AC := (.seq (.reg [] [(jm 11 1), (jm 4 11)] []) .ret)
def A15_2 : AC := (.seq (.seq (.reg [] [(jm 9 1), ((jv 10 (.bin .lss (.t 9) (jn 0))))] []) A15_3) A15_4)
def A15_1 : AC := (.seq (.reg [] [((jv 5 (.fld (.t 2) 1 1))), ((jv 6 (.load .p (.t 5)))), (jm 7 1), (.mk (some 8) none false (.call (.k (.fn 59 [] [])) [(.t 6), (.t 7)])), (jm 1 8)] []) A15_2)
def A15 : AC := (.seq (.reg [.clr [2]] [(.mk (some 2) none false (.box (.t 0))), ((jv 4 (.mov (jn 0))))] []) A15_1)
def an15 : List An := [{ id := 0, pre := [.clr [2]], ep := [], lin := [], sp := [] }]
theorem c15 : cC Try.prog Try.f15.ntmps an15 (Try.f15.body.getD .skip) = some A15 := by kernel_rfl
structure H15 (D : Den) (σ : Sig) (F : Nat) : Prop where
  c59 : ∀ (x0 : (List (Int × Int))) (x1 : Int) r, w_szIntA2S F x0 x1 = some r → D 59 [Enc.enc x0, Enc.enc x1] = some (Enc.enc (r : Int))
  g59 : σ 59 = some (0, false)
abbrev R15 (r : Int) : (Nat → V) → Prop := RR Try.prog [.tmp 4] 0 false (Enc.enc (r : Int))
section
variable {D : Den} {σ : Sig} {F : Nat} {r : Int}
def w_szGraph (F : Nat) (x_1 : (Int × (List (Int × Int)))) (x_2 : Int) : Option Int :=
  (w_szIntA2S F x_1.2 x_2).bind fun r_3 =>
  bif decide (r_3 < 0) then
    some (-1)
  else
    some r_3
theorem t15 (H : H15 D σ F) (x_1 : (Int × (List (Int × Int)))) (x_2 : Int) (s : Nat → V) (hs : Facts [(0, (.agg [(ji x_1.1), (Enc.enc (x_1.2 : List (Int × Int)))])), (1, (ji x_2))] s) (h : w_szGraph F x_1 x_2 = some r) : Run D σ (R15 r) (.run A15 []) s := by
  unfold w_szGraph at h
  obtain ⟨h0, h1⟩ := hs
  refine .seq (run_reg ?_)
  refine e_clr ?_
  refine ez [(0, _), (1, _), (2, _)] ⟨(keep_clear (pk := [2]) h0 rfl (map_agg (maps_cons mi (maps_cons me maps_nil)))), (keep_clear (pk := [2]) h1 rfl mi), (gone_clear (pk := [2]) (t := 2) rfl)⟩ ?_
  rintro s ⟨h0, h1, h2⟩
  refine g_box (.agg [(ji x_1.1), (Enc.enc (x_1.2 : List (Int × Int)))]) (rd_of h0 rfl) h2 rfl ?_
  refine g0 (ji 0) fun h4 => gq (.nsq (.seq (rg (g1 2 (.ref (.bx 2) 0 [1] (Enc.enc (x_1.2 : List (Int × Int)))) (rfl : (_ : V) = (.ref (.bx 2) 0 [] (.agg [(ji x_1.1), (Enc.enc (x_1.2 : List (Int × Int)))]))) fun h5 => ?_))))
  refine g1 5 (Enc.enc (x_1.2 : List (Int × Int))) h5 fun h6 => ?_
  refine gm h1 fun h7 => ?_
  obtain ⟨r_3, E_r_3, h⟩ := bind_some h
  refine g_call (m := 0) (al := false) (r := (Enc.enc (r_3 : Int))) [Enc.enc (x_1.2 : (List (Int × Int))), Enc.enc (x_2 : Int)] (ta_cons (v := (Enc.enc (x_1.2 : List (Int × Int)))) h6 rfl (Enc.erase_enc (x_1.2 : (List (Int × Int)))) (ta_cons (v := (ji x_2)) h7 rfl rfl ta_nil)) (H.c59 _ _ _ E_r_3) H.g59 rfl rfl rfl rfl ?_
  refine gm (rfl : (_ : V) = (ji r_3)) fun h1 => ?_
  refine gq (.nsq (.seq (.seq (rg (gm h1 fun h9 => g1 9 (jb (decide (r_3 < 0))) h9 fun h10 => ?_)))))
  refine gq (.nsq (run_cond (t := decide (r_3 < 0)) h10 h (fun h => ?_) (fun h => ?_)))
  · refine .seq (rg (g0 (ji (-1)) fun h4 => ?_))
    refine gq (.nsq (.ret ?_))
    have hr := Option.some.inj h
    subst hr
    exact rrA (res_tmp h4) rfl
  refine .skip (.nsq (.seq (rg (gm h1 fun h11 => gm h11 fun h4 => gq (.nsq (.ret ?_))))))
  have hr := Option.some.inj h
  subst hr
  exact rrA (res_tmp h4) rfl
end
def e15 (F : Nat) : Ent := ent 15 (fun (x : ((Int × (List (Int × Int))) × Int × Unit)) => w_szGraph F x.1 x.2.1) (fun (r : Int) => (Enc.enc (r : Int))) 0 false []
theorem p15 {F : Nat} {x0 : (Int × (List (Int × Int)))} {x1 : Int} {r : Int} (h : w_szGraph F x0 x1 = some r) : (e15 F).den [Enc.enc x0, Enc.enc x1] = some (Enc.enc (r : Int)) := ent_put (x0, x1, ()) h
theorem o15 {D : Den} {σ : Sig} {F : Nat} (hF : Fits2 Try.prog D σ) (H : H15 D σ F) : (e15 F).Ok Try.prog := by
  refine ok_of (f := 15) (show unk 15 = 15 from rfl) (fun args r h => ?_) ⟨Try.f15, Try.func15, rfl, rfl⟩
  obtain ⟨⟨x0, x1, _⟩, y, rfl, hy, rfl⟩ := da_open h
  exact contract_run hF (by kernel_rfl) Try.func15 rfl c15 (show 2 ≤ Try.f15.ntmps by decide) (t15 H x0 x1 _ ⟨rfl, rfl⟩ hy)
/- loop.example/g01109/laws.toIntA2 -/
def A123_2 : AC := (.cond (.t 6) .skip (.exit 0))
def A123_4 : AC := (.reg [] [(jm 7 4), ((jv 8 (.bin .add (.t 7) (jn 1)))), (jm 4 8)] [])
def A123_3 : AC := (.seq (.block 1 (.reg [] [(jm 9 4), (jm 10 4), ((jv 11 (.idxA (.t 1) (.t 10) 2 1))), ((jv 12 (.load .s (.t 11)))), ((jv 13 (.idxA (.t 3) (.t 9) 2 1))), (.mk none none false (.store .s (.t 13) (.t 12)))] [])) A123_4)
def A123_1 : AC := (.seq (.seq (.reg [] [(jm 5 4), ((jv 6 (.bin .lss (.t 5) (jn 2))))] []) A123_2) A123_3)
def A123_5 : AC := (.seq (.reg [] [((jv 14 (.load (.ag [.s, .s]) (.t 3)))), (.mk none none false (.store (.ag [.s, .s]) (.t 2) (.t 14)))] []) .ret)
def A123_8 : AC := (.block 0 (.loop A123_1))
def A123_7 : AC := (.seq (.seq (.reg [] [((jv 4 (.mov (jn 0))))] []) A123_8) A123_5)
def A123_6 : AC := (.seq (.reg [.clr [3]] [(.mk (some 3) none false (.alloc (.agg [(.int .i64 (.ofNat 0)), (.int .i64 (.ofNat 0))])))] []) A123_7)
def A123 : AC := (.seq (.reg [.clr [1, 2]] [(.mk (some 1) none false (.box (.t 0))), (.mk (some 2) none false (.alloc (.agg [(.int .i64 (.ofNat 0)), (.int .i64 (.ofNat 0))])))] []) A123_6)
def an123 : List An := [{ id := 0, pre := [.clr [1, 2]], ep := [], lin := [], sp := [] }, { id := 1, pre := [.clr [3]], ep := [], lin := [], sp := [] }]
theorem c123 : cC Try.prog Try.f123.ntmps an123 (Try.f123.body.getD .skip) = some A123 := by kernel_rfl
structure H123 (D : Den) (σ : Sig) (F : Nat) : Prop where
  mk ::
abbrev R123 (r : (Int × Int)) : (Nat → V) → Prop := RR Try.prog [.cell 2 103] 0 false (Enc.enc (r : (Int × Int)))
section
variable {D : Den} {σ : Sig} {F : Nat} {r : (Int × Int)}
def w_toIntA2_l1 (F : Nat) (x_1 : (Int × Int))  : Nat → Int → Int → Int → Option (Int × Int)
  | 0, _, _, _ => none
  | k + 1, x_2, x_3, x_6 =>
    bif decide (x_3 < 2) then
      (idx [x_1.1, x_1.2] x_3).bind fun e_9 =>
      (idx [x_2, x_6] x_3).bind fun e_10 =>
      (w_toIntA2_l1 F x_1 k) (bif x_3 == 0 then e_9 else x_2) (w64 (x_3 + 1)) (bif x_3 == 1 then e_9 else x_6)
    else
      some (x_2, x_6)
theorem t_f123_l1 (H : H123 D σ F) (x_1 : (Int × Int))  : ∀ (k : Nat) (x_2 : Int) (x_3 : Int) (x_6 : Int) (s : Nat → V), Facts [(1, (.ref (.bx 1) 0 [] (.agg [(ji x_1.1), (ji x_1.2)]))), (2, (.ref (.bx 2) 0 [] (.agg [(ji 0), (ji 0)]))), (3, (.ref (.bx 3) 0 [] (.agg [(ji x_2), (ji x_6)]))), (4, (ji x_3))] s → w_toIntA2_l1 F x_1 k x_2 x_3 x_6 = some r → Run D σ (R123 r) (.run A123_1 [.lp A123_1, .bk 0, .sq A123_5]) s := by
  intro k
  induction k with
  | zero => intro x_2 x_3 x_6 s _ h; exact nomatch (h : (none : Option _) = some r)
  | succ k ih =>
    intro x_2 x_3 x_6 s hs h
    rw [w_toIntA2_l1] at h
    obtain ⟨h1, h2, h3, h4⟩ := hs
    refine .seq (.seq (rg (gm h4 fun h5 => g1 5 (jb (decide (x_3 < 2))) h5 fun h6 => ?_)))
    refine gq (.nsq (run_cond (t := decide (x_3 < 2)) h6 h (fun h => ?_) (fun h => ?_)))
    · refine .skip (.nsq (.seq (.block (rg (gm h4 fun h9 => gm h4 fun h10 => ?_)))))
      obtain ⟨e_9, E_e_9, h⟩ := bind_some h
      refine gv (.ref (.bx 1) 0 [x_3.toNat] (ji e_9)) (ev_idxA (xs := [x_1.1, x_1.2]) (a := e_9) (n := x_3) (q := []) h1 h10 E_e_9 rfl rfl rfl) fun h11 => ?_
      refine g1 11 (ji e_9) h11 fun h12 => ?_
      obtain ⟨e_10, E_e_10, h⟩ := bind_some h
      refine gv (.ref (.bx 3) 0 [x_3.toNat] (ji e_10)) (ev_idxA (xs := [x_2, x_6]) (a := e_10) (n := x_3) (q := []) h3 h9 E_e_10 rfl rfl rfl) fun h13 => ?_
      refine g_store (ji e_9) (rd_of h13 rfl) (rd_of h12 rfl) (by refine ⟨by decide, by decide, rfl, rfl, rfl, ?_⟩; first | rfl | simp [V.toks, V.tokss, Enc.toks_enc]) ?_
      refine gz [(1, (.ref (.bx 1) 0 [] (.agg [(ji x_1.1), (ji x_1.2)]))), (2, (.ref (.bx 2) 0 [] (.agg [(ji 0), (ji 0)]))), (3, (.ref (.bx 3) 0 [] (.agg [(ji (bif x_3 == 0 then e_9 else x_2)), (ji (bif x_3 == 1 then e_9 else x_6))]))), (4, (ji x_3))] ⟨(keep_mut h1 rfl), (keep_mut h2 rfl), (keep_mut h3 (mut_ix2 E_e_10 rfl)), (keep_mut h4 rfl)⟩ ?_
      rintro s ⟨h1, h2, h3, h4⟩
      refine .nbk (.nsq (rg (gm h4 fun h7 => g1 7 (ji (w64 (x_3 + 1))) h7 fun h8 => ?_)))
      refine gm h8 fun h4 => gq (.nlp ?_)
      exact ih (bif x_3 == 0 then e_9 else x_2) (w64 (x_3 + 1)) (bif x_3 == 1 then e_9 else x_6) _ ⟨h1, h2, h3, h4⟩ h
    refine .exit (.esq (.elp (.ebk (.nsq (.seq (rg (g1 3 (.agg [(ji x_2), (ji x_6)]) h3 fun h14 => ?_)))))))
    refine g_store (.agg [(ji x_2), (ji x_6)]) (rd_of h2 rfl) (rd_of h14 rfl) (by refine ⟨by decide, by decide, rfl, rfl, rfl, ?_⟩; first | rfl | simp [V.toks, V.tokss, Enc.toks_enc]) ?_
    refine gz [(2, (.ref (.bx 2) 0 [] (.agg [(ji x_2), (ji x_6)])))] (keep_mut h2 rfl) ?_
    rintro s h2
    refine .nsq (.ret ?_)
    have hr := Option.some.inj h
    subst hr
    exact rrA (res_cell h2 (by kernel_rfl)) rfl
def w_toIntA2 (F : Nat) (x_1 : (Int × Int)) : Option (Int × Int) :=
  w_toIntA2_l1 F x_1 F 0 0 0
theorem t123 (H : H123 D σ F) (x_1 : (Int × Int)) (s : Nat → V) (hs : Facts [(0, (.agg [(ji x_1.1), (ji x_1.2)]))] s) (h : w_toIntA2 F x_1 = some r) : Run D σ (R123 r) (.run A123 []) s := by
  unfold w_toIntA2 at h
  have h0 := hs
  refine .seq (run_reg ?_)
  refine e_clr ?_
  refine ez [(0, _), (1, _), (2, _)] ⟨(keep_clear (pk := [1, 2]) h0 rfl (map_agg (maps_cons mi (maps_cons mi maps_nil)))), (gone_clear (pk := [1, 2]) (t := 1) rfl), (gone_clear (pk := [1, 2]) (t := 2) rfl)⟩ ?_
  rintro s ⟨h0, h1, h2⟩
  refine g_box (.agg [(ji x_1.1), (ji x_1.2)]) (rd_of h0 rfl) h1 rfl ?_
  refine g_alloc h2 ?_
  refine gq (.nsq (.seq (run_reg ?_)))
  refine e_clr ?_
  refine ez [(1, _), (2, _), (3, _)] ⟨(keep_clear (pk := [3]) rfl rfl (map_bx rfl (map_agg (maps_cons mi (maps_cons mi maps_nil))))), (keep_clear (pk := [3]) rfl rfl (map_bx rfl (map_agg (maps_cons mi (maps_cons mi maps_nil))))), (gone_clear (pk := [3]) (t := 3) rfl)⟩ ?_
  rintro s ⟨h1, h2, h3⟩
  refine g_alloc h3 ?_
  refine gq (.nsq (.seq (.seq (rg (g0 (ji 0) fun h4 => gq (.nsq (.block (.loop ?_))))))))
  exact t_f123_l1 H x_1 F 0 0 0 _ ⟨h1, h2, rfl, h4⟩ h
end
def e123 (F : Nat) : Ent := ent 123 (fun (x : ((Int × Int) × Unit)) => w_toIntA2 F x.1) (fun (r : (Int × Int)) => (Enc.enc (r : (Int × Int)))) 0 false []
theorem p123 {F : Nat} {x0 : (Int × Int)} {r : (Int × Int)} (h : w_toIntA2 F x0 = some r) : (e123 F).den [Enc.enc x0] = some (Enc.enc (r : (Int × Int))) := ent_put (x0, ()) h
theorem o123 {D : Den} {σ : Sig} {F : Nat} (hF : Fits2 Try.prog D σ) (H : H123 D σ F) : (e123 F).Ok Try.prog := by
  refine ok_of (f := 123) (show unk 123 = 123 from rfl) (fun args r h => ?_) ⟨Try.f123, Try.func123, rfl, rfl⟩
  obtain ⟨⟨x0, _⟩, y, rfl, hy, rfl⟩ := da_open h
  exact contract_run hF (by kernel_rfl) Try.func123 rfl c123 (show 1 ≤ Try.f123.ntmps by decide) (t123 H x0 _ rfl hy)
/- loop.example/g01109/laws.toIntA2S -/
def A62_2 : AC := (.cond (.t 11) .skip (.exit 0))
def A62_4 : AC := (.reg [] [(jm 12 4), ((jv 13 (.bin .add (.t 12) (jn 1)))), (jm 4 13)] [])
def A62_3 : AC := (.seq (.block 1 (.reg [] [(jm 14 3), (jm 15 4), (jm 16 0), (jm 17 4), ((jv 18 (.idx (.t 16) (.t 17) 2))), ((jv 19 (.load (.ag [.s, .s]) (.t 18)))), (.mk (some 20) none false (.call (.k (.fn 123 [] [])) [(.t 19)])), ((jv 21 (.idx (.t 14) (.t 15) 2))), (.mk none none false (.store (.ag [.s, .s]) (.t 21) (.t 20)))] [])) A62_4)
def A62_1 : AC := (.seq (.seq (.reg [] [(jm 8 4), (jm 9 0), ((jv 10 (.len (.t 9)))), ((jv 11 (.bin .lss (.t 8) (.t 10))))] []) A62_2) A62_3)
def A62_5 : AC := (.seq (.reg [] [(jm 22 3), (jm 2 22)] [.home 3 2]) .ret)
def A62_8 : AC := (.block 0 (.loop A62_1))
def A62_7 : AC := (.seq (.seq (.reg [] [((jv 4 (.mov (jn 0))))] []) A62_8) A62_5)
def A62_6 : AC := (.seq (.reg [.clr [7]] [(jm 5 0), ((jv 6 (.len (.t 5)))), (.mk (some 7) none false (.mk (.t 6) (.agg [(.int .i64 (.ofNat 0)), (.int .i64 (.ofNat 0))]) (.agg [(.int .i64 (.ofNat 0)), (.int .i64 (.ofNat 0))]))), (jm 3 7)] [.home 7 3]) A62_7)
def A62 : AC := (.seq (.reg [] [((jv 2 (.mov (.k (.sl .nl (.ag [.s, .s]) 0 [])))))] []) A62_6)
def an62 : List An := [{ id := 1, pre := [.clr [7]], ep := [.home 7 3], lin := [], sp := [] }, { id := 6, pre := [], ep := [.home 3 2], lin := [], sp := [] }]
theorem c62 : cC Try.prog Try.f62.ntmps an62 (Try.f62.body.getD .skip) = some A62 := by kernel_rfl
structure H62 (D : Den) (σ : Sig) (F : Nat) : Prop where
  c123 : ∀ (x0 : (Int × Int)) r, w_toIntA2 F x0 = some r → D 123 [Enc.enc x0] = some (Enc.enc (r : (Int × Int)))
  g123 : σ 123 = some (0, false)
abbrev R62 (r : (List (Int × Int))) : (Nat → V) → Prop := RR Try.prog [.tmp 2] 0 false (Enc.enc (r : (List (Int × Int))))
section
variable {D : Den} {σ : Sig} {F : Nat} {r : (List (Int × Int))}
def w_toIntA2S_l1 (F : Nat) (x_1 : (List (Int × Int)))  : Nat → (List (Int × Int)) → Int → Option (List (Int × Int))
  | 0, _, _ => none
  | k + 1, x_6, x_7 =>
    bif decide (x_7 < (x_1.length : Int)) then
      (idx x_1 x_7).bind fun e_11 =>
      (w_toIntA2 F e_11).bind fun r_12 =>
      (idx x_6 x_7).bind fun e_13 =>
      (w_toIntA2S_l1 F x_1 k) (x_6.set x_7.toNat r_12) (w64 (x_7 + 1))
    else
      some x_6
theorem t_f62_l1 (H : H62 D σ F) (x_1 : (List (Int × Int)))  : ∀ (k : Nat) (x_6 : (List (Int × Int))) (x_7 : Int) (s : Nat → V), Facts [(0, (Enc.enc (x_1 : List (Int × Int)))), (2, (.sl .nl (Enc.shp (Int × Int)) 0 [])), (3, (encO (.at 3 []) (.of (x_6 : List (Int × Int))))), (4, (ji x_7))] s → w_toIntA2S_l1 F x_1 k x_6 x_7 = some r → Run D σ (R62 r) (.run A62_1 [.lp A62_1, .bk 0, .sq A62_5]) s := by
  intro k
  induction k with
  | zero => intro x_6 x_7 s _ h; exact nomatch (h : (none : Option _) = some r)
  | succ k ih =>
    intro x_6 x_7 s hs h
    rw [w_toIntA2S_l1] at h
    obtain ⟨h0, h2, h3, h4⟩ := hs
    refine .seq (.seq (rg (gm h4 fun h8 => gm h0 fun h9 => gv (ji (x_1.length : Int)) (ev_len (xs := x_1) h9) fun h10 => ?_)))
    refine g2 8 10 (jb (decide (x_7 < (x_1.length : Int)))) h8 h10 fun h11 => ?_
    refine gq (.nsq (run_cond (t := decide (x_7 < (x_1.length : Int))) h11 h (fun h => ?_) (fun h => ?_)))
    · refine .skip (.nsq (.seq (.block (rg (gm h3 fun h14 => gm h4 fun h15 => gm h0 fun h16 => gm h4 fun h17 => ?_)))))
      obtain ⟨e_11, E_e_11, h⟩ := bind_some h
      refine gv (.ref .sh 0 [] (.agg [(ji e_11.1), (ji e_11.2)])) (ev_idx (t := .sh) (lo := 0) (xs := x_1) h16 h17 E_e_11 rfl rfl) fun h18 => ?_
      refine g1 18 (.agg [(ji e_11.1), (ji e_11.2)]) h18 fun h19 => ?_
      obtain ⟨r_12, E_r_12, h⟩ := bind_some h
      refine g_call (m := 0) (al := false) (r := (Enc.enc (r_12 : (Int × Int)))) [Enc.enc (e_11 : (Int × Int))] (ta_cons (v := (.agg [(ji e_11.1), (ji e_11.2)])) h19 rfl (Enc.erase_enc (e_11 : (Int × Int))) ta_nil) (H.c123 _ _ E_r_12) H.g123 rfl rfl rfl rfl ?_
      obtain ⟨e_13, E_e_13, h⟩ := bind_some h
      refine gv (.ref (.at 3 []) x_7.toNat [] (.agg [(ji e_13.1), (ji e_13.2)])) (ev_idxO (o := (.of x_6)) h14 h15 E_e_13 rfl) fun h21 => ?_
      refine g_store (.agg [(ji r_12.1), (ji r_12.2)]) (rd_of h21 rfl) (rd_of rfl rfl) (by refine ⟨by decide, by decide, rfl, rfl, rfl, ?_⟩; first | rfl | simp [V.toks, V.tokss, Enc.toks_enc]) ?_
      refine gz [(0, (Enc.enc (x_1 : List (Int × Int)))), (2, (.sl .nl (Enc.shp (Int × Int)) 0 [])), (3, _), (4, (ji x_7))] ⟨(keep_mut h0 (Enc.mut_enc _ _ _ _ (x_1 : List (Int × Int)))), (keep_mut h2 rfl), (keep_mut h3 mut_own), (keep_mut h4 rfl)⟩ ?_
      rintro s ⟨h0, h2, h3, h4⟩
      refine .nbk (.nsq (rg (gm h4 fun h12 => g1 12 (ji (w64 (x_7 + 1))) h12 fun h13 => ?_)))
      refine gm h13 fun h4 => gq (.nlp ?_)
      exact ih (x_6.set x_7.toNat r_12) (w64 (x_7 + 1)) _ ⟨h0, h2, h3, h4⟩ h
    refine .exit (.esq (.elp (.ebk (.nsq (.seq (rg (gm h3 fun h22 => gm h22 fun h2 => g_end ?_)))))))
    refine e_home (r := 3) (x := 2) (v := _) h2 rfl (fun s_3 hg_3 => ?_)
    refine ez [(2, (encO (.at 2 []) (.of (x_6 : List (Int × Int)))))] (hg_3 2 _ _ h2 (map_encO (r := 3) (p := []) rfl rfl)) ?_
    rintro s h2
    refine .nsq (.ret ?_)
    have hr := Option.some.inj h
    subst hr
    exact rrA (res_tmp h2) (fin_retF (fin_own (o := .of x_6)) (mine_own rfl))
def w_toIntA2S (F : Nat) (x_1 : (List (Int × Int))) : Option (List (Int × Int)) :=
  (mkN (x_1.length : Int) (0, 0)).bind fun mk_2 =>
  w_toIntA2S_l1 F x_1 F mk_2 0
theorem t62 (H : H62 D σ F) (x_1 : (List (Int × Int))) (s : Nat → V) (hs : Facts [(0, (Enc.enc (x_1 : List (Int × Int))))] s) (h : w_toIntA2S F x_1 = some r) : Run D σ (R62 r) (.run A62 []) s := by
  unfold w_toIntA2S at h
  have h0 := hs
  refine .seq (rg (g0 (.sl .nl (Enc.shp (Int × Int)) 0 []) fun h2 => ?_))
  refine gq (.nsq (.seq (run_reg ?_)))
  refine e_clr ?_
  refine ez [(0, _), (2, _), (7, _)] ⟨(keep_clear (pk := [7]) h0 rfl me), (keep_clear (pk := [7]) h2 rfl rfl), (gone_clear (pk := [7]) (t := 7) rfl)⟩ ?_
  rintro s ⟨h0, h2, h7⟩
  refine gm h0 fun h5 => gv (ji (x_1.length : Int)) (ev_len (xs := x_1) h5) fun h6 => ?_
  obtain ⟨mk_2, E_mk_2, h⟩ := bind_some h
  refine g_mk ((0, 0) : (Int × Int)) h6 rfl h7 E_mk_2 ?_
  refine gm (rfl : (_ : V) = (encO (.at 7 []) (.of (mk_2 : List (Int × Int))))) fun h3 => ?_
  refine g_end ?_
  refine e_home (r := 7) (x := 3) (v := _) h3 rfl (fun s_2 hg_2 => ?_)
  refine ez [(0, (Enc.enc (x_1 : List (Int × Int)))), (2, (.sl .nl (Enc.shp (Int × Int)) 0 [])), (3, (encO (.at 3 []) (.of (mk_2 : List (Int × Int)))))] ⟨(hg_2 0 _ _ h0 me), (hg_2 2 _ (.sl .nl (Enc.shp (Int × Int)) 0 []) h2 rfl), (hg_2 3 _ _ h3 (map_encO (r := 7) (p := []) rfl rfl))⟩ ?_
  rintro s ⟨h0, h2, h3⟩
  refine .nsq (.seq (.seq (rg (g0 (ji 0) fun h4 => gq (.nsq (.block (.loop ?_)))))))
  exact t_f62_l1 H x_1 F mk_2 0 _ ⟨h0, h2, h3, h4⟩ h
end
def e62 (F : Nat) : Ent := ent 62 (fun (x : ((List (Int × Int)) × Unit)) => w_toIntA2S F x.1) (fun (r : (List (Int × Int))) => (Enc.enc (r : (List (Int × Int))))) 0 false []
theorem p62 {F : Nat} {x0 : (List (Int × Int))} {r : (List (Int × Int))} (h : w_toIntA2S F x0 = some r) : (e62 F).den [Enc.enc x0] = some (Enc.enc (r : (List (Int × Int)))) := ent_put (x0, ()) h
theorem o62 {D : Den} {σ : Sig} {F : Nat} (hF : Fits2 Try.prog D σ) (H : H62 D σ F) : (e62 F).Ok Try.prog := by
  refine ok_of (f := 62) (show unk 62 = 62 from rfl) (fun args r h => ?_) ⟨Try.f62, Try.func62, rfl, rfl⟩
  obtain ⟨⟨x0, _⟩, y, rfl, hy, rfl⟩ := da_open h
  exact contract_run hF (by kernel_rfl) Try.func62 rfl c62 (show 1 ≤ Try.f62.ntmps by decide) (t62 H x0 _ rfl hy)
/- loop.example/g01109/laws.toGraph -/
def A17_4 : AC := (.seq (.reg [] [((jv 11 (.load (.ag [.s, .p]) (.t 3)))), (.mk none none false (.store (.ag [.s, .p]) (.t 2) (.t 11)))] []) .ret)
def A17_3 : AC := (.seq (.reg [] [((jv 7 (.fld (.t 1) 1 1))), ((jv 8 (.load .p (.t 7)))), (.mk (some 9) none false (.call (.k (.fn 62 [] [])) [(.t 8)])), ((jv 10 (.fld (.t 3) 1 1))), (.mk none none false (.store .p (.t 10) (.t 9)))] []) A17_4)
def A17_2 : AC := (.seq (.reg [] [((jv 4 (.fld (.t 1) 0 0))), ((jv 5 (.load .s (.t 4)))), ((jv 6 (.fld (.t 3) 0 0))), (.mk none none false (.store .s (.t 6) (.t 5)))] []) A17_3)
def A17_1 : AC := (.seq (.reg [.clr [3]] [(.mk (some 3) none false (.alloc (.agg [(.int .i64 (.ofNat 0)), (.sl .nl (.ag [.s, .s]) 0 [])])))] []) A17_2)
def A17 : AC := (.seq (.reg [.clr [1, 2]] [(.mk (some 1) none false (.box (.t 0))), (.mk (some 2) none false (.alloc (.agg [(.int .i64 (.ofNat 0)), (.sl .nl (.ag [.s, .s]) 0 [])])))] []) A17_1)
def an17 : List An := [{ id := 0, pre := [.clr [1, 2]], ep := [], lin := [], sp := [] }, { id := 1, pre := [.clr [3]], ep := [], lin := [], sp := [] }]
theorem c17 : cC Try.prog Try.f17.ntmps an17 (Try.f17.body.getD .skip) = some A17 := by kernel_rfl
structure H17 (D : Den) (σ : Sig) (F : Nat) : Prop where
  c62 : ∀ (x0 : (List (Int × Int))) r, w_toIntA2S F x0 = some r → D 62 [Enc.enc x0] = some (Enc.enc (r : (List (Int × Int))))
  g62 : σ 62 = some (0, false)
abbrev R17 (r : (Int × (List (Int × Int)))) : (Nat → V) → Prop := RR Try.prog [.cell 2 27] 0 true (Enc.enc (r : (Int × (List (Int × Int)))))
section
variable {D : Den} {σ : Sig} {F : Nat} {r : (Int × (List (Int × Int)))}
def w_toGraph (F : Nat) (x_1 : (Int × (List (Int × Int)))) : Option (Int × (List (Int × Int))) :=
  (w_toIntA2S F x_1.2).bind fun r_2 =>
  some (x_1.1, r_2)
theorem t17 (H : H17 D σ F) (x_1 : (Int × (List (Int × Int)))) (s : Nat → V) (hs : Facts [(0, (.agg [(ji x_1.1), (Enc.enc (x_1.2 : List (Int × Int)))]))] s) (h : w_toGraph F x_1 = some r) : Run D σ (R17 r) (.run A17 []) s := by
  unfold w_toGraph at h
  have h0 := hs
  refine .seq (run_reg ?_)
  refine e_clr ?_
  refine ez [(0, _), (1, _), (2, _)] ⟨(keep_clear (pk := [1, 2]) h0 rfl (map_agg (maps_cons mi (maps_cons me maps_nil)))), (gone_clear (pk := [1, 2]) (t := 1) rfl), (gone_clear (pk := [1, 2]) (t := 2) rfl)⟩ ?_
  rintro s ⟨h0, h1, h2⟩
  refine g_box (.agg [(ji x_1.1), (Enc.enc (x_1.2 : List (Int × Int)))]) (rd_of h0 rfl) h1 rfl ?_
  refine g_alloc h2 ?_
  refine gq (.nsq (.seq (run_reg ?_)))
  refine e_clr ?_
  refine ez [(1, _), (2, _), (3, _)] ⟨(keep_clear (pk := [3]) rfl rfl (map_bx rfl (map_agg (maps_cons mi (maps_cons me maps_nil))))), (keep_clear (pk := [3]) rfl rfl (map_bx rfl (map_agg (maps_cons mi (maps_cons rfl maps_nil))))), (gone_clear (pk := [3]) (t := 3) rfl)⟩ ?_
  rintro s ⟨h1, h2, h3⟩
  refine g_alloc h3 ?_
  refine gq (.nsq (.seq (rg (g1 1 (.ref (.bx 1) 0 [0] (ji x_1.1)) h1 fun h4 => ?_))))
  refine g1 4 (ji x_1.1) h4 fun h5 => ?_
  refine g1 3 (.ref (.bx 3) 0 [0] (ji 0)) (rfl : (_ : V) = (.ref (.bx 3) 0 [] (.agg [(ji 0), (.sl .nl (Enc.shp (Int × Int)) 0 [])]))) fun h6 => ?_
  refine g_store (ji x_1.1) (rd_of h6 rfl) (rd_of h5 rfl) (by refine ⟨by decide, by decide, rfl, rfl, rfl, ?_⟩; first | rfl | simp [V.toks, V.tokss, Enc.toks_enc]) ?_
  refine gz [(1, (.ref (.bx 1) 0 [] (.agg [(ji x_1.1), (Enc.enc (x_1.2 : List (Int × Int)))]))), (2, (.ref (.bx 2) 0 [] (.agg [(ji 0), (.sl .nl (Enc.shp (Int × Int)) 0 [])]))), (3, (.ref (.bx 3) 0 [] (.agg [(ji x_1.1), (.sl .nl (Enc.shp (Int × Int)) 0 [])])))] ⟨(keep_mut h1 (mut_ref_ne rfl rfl (mut_agg (muts_cons rfl (muts_cons (Enc.mut_enc _ _ _ _ (x_1.2 : List (Int × Int))) rfl))))), (keep_mut h2 (mut_ref_ne rfl rfl (mut_agg (muts_cons rfl (muts_cons rfl rfl))))), (keep_mut rfl rfl)⟩ ?_
  rintro s ⟨h1, h2, h3⟩
  refine .nsq (.seq (rg (g1 1 (.ref (.bx 1) 0 [1] (Enc.enc (x_1.2 : List (Int × Int)))) h1 fun h7 => ?_)))
  refine g1 7 (Enc.enc (x_1.2 : List (Int × Int))) h7 fun h8 => ?_
  obtain ⟨r_2, E_r_2, h⟩ := bind_some h
  refine g_call (m := 0) (al := false) (r := (Enc.enc (r_2 : (List (Int × Int))))) [Enc.enc (x_1.2 : (List (Int × Int)))] (ta_cons (v := (Enc.enc (x_1.2 : List (Int × Int)))) h8 rfl (Enc.erase_enc (x_1.2 : (List (Int × Int)))) ta_nil) (H.c62 _ _ E_r_2) H.g62 rfl rfl rfl rfl ?_
  refine g1 3 (.ref (.bx 3) 0 [1] (.sl .nl (Enc.shp (Int × Int)) 0 [])) h3 fun h10 => ?_
  refine g_store (Enc.enc (r_2 : List (Int × Int))) (rd_of h10 rfl) (rd_of rfl rfl) (by refine ⟨by decide, by decide, rfl, rfl, rfl, ?_⟩; first | rfl | simp [V.toks, V.tokss, Enc.toks_enc]) ?_
  refine gz [(2, (.ref (.bx 2) 0 [] (.agg [(ji 0), (.sl .nl (Enc.shp (Int × Int)) 0 [])]))), (3, (.ref (.bx 3) 0 [] (.agg [(ji x_1.1), (Enc.enc (r_2 : List (Int × Int)))])))] ⟨(keep_mut h2 (mut_ref_ne rfl rfl (mut_agg (muts_cons rfl (muts_cons rfl rfl))))), (keep_mut h3 rfl)⟩ ?_
  rintro s ⟨h2, h3⟩
  refine .nsq (.seq (rg (g1 3 (.agg [(ji x_1.1), (Enc.enc (r_2 : List (Int × Int)))]) h3 fun h11 => ?_)))
  refine g_store (.agg [(ji x_1.1), (Enc.enc (r_2 : List (Int × Int)))]) (rd_of h2 rfl) (rd_of h11 rfl) (by refine ⟨by decide, by decide, rfl, rfl, rfl, ?_⟩; first | rfl | simp [V.toks, V.tokss, Enc.toks_enc]) ?_
  refine gz [(2, (.ref (.bx 2) 0 [] (.agg [(ji x_1.1), (Enc.enc (r_2 : List (Int × Int)))])))] (keep_mut h2 rfl) ?_
  rintro s h2
  refine .nsq (.ret ?_)
  have hr := Option.some.inj h
  subst hr
  exact rrA (res_cell h2 (by kernel_rfl)) (fin_ret1 (fin_enc (x := ((x_1.1, r_2) : (Int × (List (Int × Int)))))))
end
def e17 (F : Nat) : Ent := ent 17 (fun (x : ((Int × (List (Int × Int))) × Unit)) => w_toGraph F x.1) (fun (r : (Int × (List (Int × Int)))) => (Enc.enc (r : (Int × (List (Int × Int)))))) 0 true []
theorem p17 {F : Nat} {x0 : (Int × (List (Int × Int)))} {r : (Int × (List (Int × Int)))} (h : w_toGraph F x0 = some r) : (e17 F).den [Enc.enc x0] = some (Enc.enc (r : (Int × (List (Int × Int))))) := ent_put (x0, ()) h
theorem o17 {D : Den} {σ : Sig} {F : Nat} (hF : Fits2 Try.prog D σ) (H : H17 D σ F) : (e17 F).Ok Try.prog := by
  refine ok_of (f := 17) (show unk 17 = 17 from rfl) (fun args r h => ?_) ⟨Try.f17, Try.func17, rfl, rfl⟩
  obtain ⟨⟨x0, _⟩, y, rfl, hy, rfl⟩ := da_open h
  exact contract_run hF (by kernel_rfl) Try.func17 rfl c17 (show 1 ≤ Try.f17.ntmps by decide) (t17 H x0 _ rfl hy)
/- loop.example/g01109/spec.l1In -/
def A103_1 : AC := (.seq (.reg [] [(jm 7 0), (jm 8 1), ((jv 9 (.bin .geq (.t 7) (.t 8)))), (jm 10 9), ((jg 11 10 true (.mov (.t 0)))), ((jg 12 10 true (.mov (.t 2)))), ((jg 13 10 true (.bin .leq (.t 11) (.t 12)))), ((jv 14 (.pick (.t 10) (.t 13) (.k (.bool false))))), (jm 6 14)] []) .ret)
def A103 : AC := (.seq (.reg [] [((jv 6 (.mov (.k (.bool false)))))] []) A103_1)
def an103 : List An := []
theorem c103 : cC Try.prog Try.f103.ntmps an103 (Try.f103.body.getD .skip) = some A103 := by kernel_rfl
structure H103 (D : Den) (σ : Sig) (F : Nat) : Prop where
  mk ::
abbrev R103 (r : Bool) : (Nat → V) → Prop := RR Try.prog [.tmp 6] 0 false (Enc.enc (r : Bool))
section
variable {D : Den} {σ : Sig} {F : Nat} {r : Bool}
def s_l1In (F : Nat) (x_1 : Int) (x_2 : Int) (x_3 : Int) : Option Bool :=
  bif decide (x_1 ≥ x_2) then
    some (decide (x_1 ≤ x_3))
  else
    some false
theorem t103 (H : H103 D σ F) (x_1 : Int) (x_2 : Int) (x_3 : Int) (s : Nat → V) (hs : Facts [(0, (ji x_1)), (1, (ji x_2)), (2, (ji x_3))] s) (h : s_l1In F x_1 x_2 x_3 = some r) : Run D σ (R103 r) (.run A103 []) s := by
  unfold s_l1In at h
  obtain ⟨h0, h1, h2⟩ := hs
  refine .seq (rg (g0 (jb false) fun h6 => ?_))
  refine gq (.nsq (.seq (rg (gm h0 fun h7 => gm h1 fun h8 => g2 7 8 (jb (decide (x_1 ≥ x_2))) h7 h8 fun h9 => ?_))))
  refine gm h9 fun h10 => split_on (c := decide (x_1 ≥ x_2)) h (fun hg4 h => ?_) (fun hg4 h => ?_)
  · refine g_yes (h10.trans (congrArg V.bool hg4)) (gm h0 fun h11 => ?_)
    refine g_yes (h10.trans (congrArg V.bool hg4)) (gm h2 fun h12 => ?_)
    refine g_yes (h10.trans (congrArg V.bool hg4)) (g2 11 12 (jb (decide (x_1 ≤ x_3))) h11 h12 fun h13 => ?_)
    refine g2 10 13 (jb (decide (x_1 ≤ x_3))) (h10.trans (congrArg V.bool hg4)) h13 fun h14 => ?_
    refine gm h14 fun h6 => gq (.nsq (.ret ?_))
    have hr := Option.some.inj h
    subst hr
    exact rrA (res_tmp h6) rfl
  refine g_no (h10.trans (congrArg V.bool hg4)) ?_
  refine g_no (h10.trans (congrArg V.bool hg4)) ?_
  refine g_no (h10.trans (congrArg V.bool hg4)) ?_
  refine g2 10 13 (jb false) (h10.trans (congrArg V.bool hg4)) (rfl : (_ : V) = (.tup [])) fun h14 => ?_
  refine gm h14 fun h6 => gq (.nsq (.ret ?_))
  have hr := Option.some.inj h
  subst hr
  exact rrA (res_tmp h6) rfl
end
def e103 (F : Nat) : Ent := ent 103 (fun (x : (Int × Int × Int × Unit)) => s_l1In F x.1 x.2.1 x.2.2.1) (fun (r : Bool) => (Enc.enc (r : Bool))) 0 false []
theorem p103 {F : Nat} {x0 : Int} {x1 : Int} {x2 : Int} {r : Bool} (h : s_l1In F x0 x1 x2 = some r) : (e103 F).den [Enc.enc x0, Enc.enc x1, Enc.enc x2] = some (Enc.enc (r : Bool)) := ent_put (x0, x1, x2, ()) h
theorem o103 {D : Den} {σ : Sig} {F : Nat} (hF : Fits2 Try.prog D σ) (H : H103 D σ F) : (e103 F).Ok Try.prog := by
  refine ok_of (f := 103) (show unk 103 = 103 from rfl) (fun args r h => ?_) ⟨Try.f103, Try.func103, rfl, rfl⟩
  obtain ⟨⟨x0, x1, x2, _⟩, y, rfl, hy, rfl⟩ := da_open h
  exact contract_run hF (by kernel_rfl) Try.func103 rfl c103 (show 3 ≤ Try.f103.ntmps by decide) (t103 H x0 x1 x2 _ ⟨rfl, rfl, rfl⟩ hy)
/- loop.example/g01109/spec.l2Before -/
def A130_1 : AC := (.seq (.reg [] [((jv 5 (.idxA (.t 2) (jn 0) 2 1))), ((jv 6 (.load .s (.t 5)))), ((jv 7 (.idxA (.t 3) (jn 0) 2 1))), ((jv 8 (.load .s (.t 7)))), ((jv 9 (.bin .lss (.t 6) (.t 8)))), (jm 10 9), ((jg 11 10 false (.idxA (.t 2) (jn 0) 2 1))), ((jg 12 10 false (.load .s (.t 11)))), ((jg 13 10 false (.idxA (.t 3) (jn 0) 2 1))), ((jg 14 10 false (.load .s (.t 13)))), ((jg 15 10 false (.bin .eql (.t 12) (.t 14)))), ((jg 16 10 false (.mov (.t 15)))), ((jg 17 16 true (.idxA (.t 2) (jn 1) 2 1))), ((jg 18 16 true (.load .s (.t 17)))), ((jg 19 16 true (.idxA (.t 3) (jn 1) 2 1))), ((jg 20 16 true (.load .s (.t 19)))), ((jg 21 16 true (.bin .lss (.t 18) (.t 20)))), ((jg 22 10 false (.pick (.t 16) (.t 21) (.k (.bool false))))), ((jv 23 (.pick (.t 10) (.k (.bool true)) (.t 22)))), (jm 4 23)] []) .ret)
def A130 : AC := (.seq (.reg [.clr [2, 3]] [(.mk (some 2) none false (.box (.t 0))), (.mk (some 3) none false (.box (.t 1))), ((jv 4 (.mov (.k (.bool false)))))] []) A130_1)
def an130 : List An := [{ id := 0, pre := [.clr [2, 3]], ep := [], lin := [], sp := [] }]
theorem c130 : cC Try.prog Try.f130.ntmps an130 (Try.f130.body.getD .skip) = some A130 := by kernel_rfl
structure H130 (D : Den) (σ : Sig) (F : Nat) : Prop where
  mk ::
abbrev R130 (r : Bool) : (Nat → V) → Prop := RR Try.prog [.tmp 4] 0 false (Enc.enc (r : Bool))
section
variable {D : Den} {σ : Sig} {F : Nat} {r : Bool}
def s_l2Before (F : Nat) (x_1 : (Int × Int)) (x_2 : (Int × Int)) : Option Bool :=
  bif decide (x_1.1 < x_2.1) then
    some true
  else
    bif (x_1.1 == x_2.1) then
      some (decide (x_1.2 < x_2.2))
    else
      some false
theorem t130 (H : H130 D σ F) (x_1 : (Int × Int)) (x_2 : (Int × Int)) (s : Nat → V) (hs : Facts [(0, (.agg [(ji x_1.1), (ji x_1.2)])), (1, (.agg [(ji x_2.1), (ji x_2.2)]))] s) (h : s_l2Before F x_1 x_2 = some r) : Run D σ (R130 r) (.run A130 []) s := by
  unfold s_l2Before at h
  obtain ⟨h0, h1⟩ := hs
  refine .seq (run_reg ?_)
  refine e_clr ?_
  refine ez [(0, _), (1, _), (2, _), (3, _)] ⟨(keep_clear (pk := [2, 3]) h0 rfl (map_agg (maps_cons mi (maps_cons mi maps_nil)))), (keep_clear (pk := [2, 3]) h1 rfl (map_agg (maps_cons mi (maps_cons mi maps_nil)))), (gone_clear (pk := [2, 3]) (t := 2) rfl), (gone_clear (pk := [2, 3]) (t := 3) rfl)⟩ ?_
  rintro s ⟨h0, h1, h2, h3⟩
  refine g_box (.agg [(ji x_1.1), (ji x_1.2)]) (rd_of h0 rfl) h2 rfl ?_
  refine g_box (.agg [(ji x_2.1), (ji x_2.2)]) (rd_of h1 rfl) h3 rfl ?_
  refine g0 (jb false) fun h4 => ?_
  refine gq (.nsq (.seq (rg (g1 2 (.ref (.bx 2) 0 [0] (ji x_1.1)) (rfl : (_ : V) = (.ref (.bx 2) 0 [] (.agg [(ji x_1.1), (ji x_1.2)]))) fun h5 => ?_))))
  refine g1 5 (ji x_1.1) h5 fun h6 => ?_
  refine g1 3 (.ref (.bx 3) 0 [0] (ji x_2.1)) (rfl : (_ : V) = (.ref (.bx 3) 0 [] (.agg [(ji x_2.1), (ji x_2.2)]))) fun h7 => ?_
  refine g1 7 (ji x_2.1) h7 fun h8 => ?_
  refine g2 6 8 (jb (decide (x_1.1 < x_2.1))) h6 h8 fun h9 => ?_
  refine gm h9 fun h10 => split_on (c := decide (x_1.1 < x_2.1)) h (fun hg6 h => ?_) (fun hg6 h => ?_)
  · refine g_no (h10.trans (congrArg V.bool hg6)) ?_
    refine g_no (h10.trans (congrArg V.bool hg6)) ?_
    refine g_no (h10.trans (congrArg V.bool hg6)) ?_
    refine g_no (h10.trans (congrArg V.bool hg6)) ?_
    refine g_no (h10.trans (congrArg V.bool hg6)) ?_
    refine g_no (h10.trans (congrArg V.bool hg6)) ?_
    refine g_skip rfl ?_
    refine g_skip rfl ?_
    refine g_skip rfl ?_
    refine g_skip rfl ?_
    refine g_skip rfl ?_
    refine g_no (h10.trans (congrArg V.bool hg6)) ?_
    refine g2 10 22 (jb true) (h10.trans (congrArg V.bool hg6)) (rfl : (_ : V) = (.tup [])) fun h23 => ?_
    refine gm h23 fun h4 => gq (.nsq (.ret ?_))
    have hr := Option.some.inj h
    subst hr
    exact rrA (res_tmp h4) rfl
  refine g_yes (h10.trans (congrArg V.bool hg6)) (g1 2 (.ref (.bx 2) 0 [0] (ji x_1.1)) (rfl : (_ : V) = (.ref (.bx 2) 0 [] (.agg [(ji x_1.1), (ji x_1.2)]))) fun h11 => ?_)
  refine g_yes (h10.trans (congrArg V.bool hg6)) (g1 11 (ji x_1.1) h11 fun h12 => ?_)
  refine g_yes (h10.trans (congrArg V.bool hg6)) (g1 3 (.ref (.bx 3) 0 [0] (ji x_2.1)) (rfl : (_ : V) = (.ref (.bx 3) 0 [] (.agg [(ji x_2.1), (ji x_2.2)]))) fun h13 => ?_)
  refine g_yes (h10.trans (congrArg V.bool hg6)) (g1 13 (ji x_2.1) h13 fun h14 => ?_)
  refine g_yes (h10.trans (congrArg V.bool hg6)) (g2 12 14 (jb (x_1.1 == x_2.1)) h12 h14 fun h15 => ?_)
  refine g_yes (h10.trans (congrArg V.bool hg6)) (gm h15 fun h16 => ?_)
  refine split_on (c := (x_1.1 == x_2.1)) h (fun hg12 h => ?_) (fun hg12 h => ?_)
  · refine g_yes (h16.trans (congrArg V.bool hg12)) (g1 2 (.ref (.bx 2) 0 [1] (ji x_1.2)) (rfl : (_ : V) = (.ref (.bx 2) 0 [] (.agg [(ji x_1.1), (ji x_1.2)]))) fun h17 => ?_)
    refine g_yes (h16.trans (congrArg V.bool hg12)) (g1 17 (ji x_1.2) h17 fun h18 => ?_)
    refine g_yes (h16.trans (congrArg V.bool hg12)) (g1 3 (.ref (.bx 3) 0 [1] (ji x_2.2)) (rfl : (_ : V) = (.ref (.bx 3) 0 [] (.agg [(ji x_2.1), (ji x_2.2)]))) fun h19 => ?_)
    refine g_yes (h16.trans (congrArg V.bool hg12)) (g1 19 (ji x_2.2) h19 fun h20 => ?_)
    refine g_yes (h16.trans (congrArg V.bool hg12)) (g2 18 20 (jb (decide (x_1.2 < x_2.2))) h18 h20 fun h21 => ?_)
    refine g_yes (h10.trans (congrArg V.bool hg6)) (g2 16 21 (jb (decide (x_1.2 < x_2.2))) (h16.trans (congrArg V.bool hg12)) h21 fun h22 => ?_)
    refine g2 10 22 (jb (decide (x_1.2 < x_2.2))) (h10.trans (congrArg V.bool hg6)) h22 fun h23 => ?_
    refine gm h23 fun h4 => gq (.nsq (.ret ?_))
    have hr := Option.some.inj h
    subst hr
    exact rrA (res_tmp h4) rfl
  refine g_no (h16.trans (congrArg V.bool hg12)) ?_
  refine g_no (h16.trans (congrArg V.bool hg12)) ?_
  refine g_no (h16.trans (congrArg V.bool hg12)) ?_
  refine g_no (h16.trans (congrArg V.bool hg12)) ?_
  refine g_no (h16.trans (congrArg V.bool hg12)) ?_
  refine g_yes (h10.trans (congrArg V.bool hg6)) (g2 16 21 (jb false) (h16.trans (congrArg V.bool hg12)) (rfl : (_ : V) = (.tup [])) fun h22 => ?_)
  refine g2 10 22 (jb false) (h10.trans (congrArg V.bool hg6)) h22 fun h23 => ?_
  refine gm h23 fun h4 => gq (.nsq (.ret ?_))
  have hr := Option.some.inj h
  subst hr
  exact rrA (res_tmp h4) rfl
end
def e130 (F : Nat) : Ent := ent 130 (fun (x : ((Int × Int) × (Int × Int) × Unit)) => s_l2Before F x.1 x.2.1) (fun (r : Bool) => (Enc.enc (r : Bool))) 0 false []
theorem p130 {F : Nat} {x0 : (Int × Int)} {x1 : (Int × Int)} {r : Bool} (h : s_l2Before F x0 x1 = some r) : (e130 F).den [Enc.enc x0, Enc.enc x1] = some (Enc.enc (r : Bool)) := ent_put (x0, x1, ()) h
theorem o130 {D : Den} {σ : Sig} {F : Nat} (hF : Fits2 Try.prog D σ) (H : H130 D σ F) : (e130 F).Ok Try.prog := by
  refine ok_of (f := 130) (show unk 130 = 130 from rfl) (fun args r h => ?_) ⟨Try.f130, Try.func130, rfl, rfl⟩
  obtain ⟨⟨x0, x1, _⟩, y, rfl, hy, rfl⟩ := da_open h
  exact contract_run hF (by kernel_rfl) Try.func130 rfl c130 (show 2 ≤ Try.f130.ntmps by decide) (t130 H x0 x1 _ ⟨rfl, rfl⟩ hy)
/- loop.example/g01109/spec.l2Good -/
def A72_2 : AC := (.cond (.t 9) .skip (.exit 0))
def A72_5 : AC := (.cond (.t 54) (.seq (.reg [] [((jv 2 (.mov (.k (.bool false)))))] []) .ret) .skip)
def A72_4 : AC := (.seq (.reg [] [((jv 17 (.idxA (.t 4) (jn 0) 2 1))), ((jv 18 (.load .s (.t 17)))), ((jv 19 (.fld (.t 1) 0 0))), ((jv 20 (.load .s (.t 19)))), ((jv 21 (.bin .sub (.t 20) (jn 1)))), (.mk (some 22) none false (.call (.k (.fn 103 [] [])) [(.t 18), (jn 0), (.t 21)])), ((jv 23 (.un .not (.t 22)))), (jm 24 23), ((jg 25 24 false (.idxA (.t 4) (jn 1) 2 1))), ((jg 26 24 false (.load .s (.t 25)))), ((jg 27 24 false (.fld (.t 1) 0 0))), ((jg 28 24 false (.load .s (.t 27)))), ((jg 29 24 false (.bin .sub (.t 28) (jn 1)))), (.mk (some 30) (some (24, false)) false (.call (.k (.fn 103 [] [])) [(.t 26), (jn 0), (.t 29)])), ((jg 31 24 false (.un .not (.t 30)))), ((jv 32 (.pick (.t 24) (.k (.bool true)) (.t 31)))), (jm 33 32), ((jg 34 33 false (.idxA (.t 4) (jn 0) 2 1))), ((jg 35 33 false (.load .s (.t 34)))), ((jg 36 33 false (.idxA (.t 4) (jn 1) 2 1))), ((jg 37 33 false (.load .s (.t 36)))), ((jg 38 33 false (.bin .geq (.t 35) (.t 37)))), ((jv 39 (.pick (.t 33) (.k (.bool true)) (.t 38)))), (jm 40 39), ((jg 41 40 false (.mov (.t 3)))), ((jg 42 40 false (.bin .gtr (.t 41) (jn 0)))), ((jg 43 40 false (.mov (.t 42)))), ((jg 44 43 true (.fld (.t 1) 1 1))), ((jg 45 43 true (.load .p (.t 44)))), ((jg 46 43 true (.mov (.t 3)))), ((jg 47 43 true (.bin .sub (.t 46) (jn 1)))), ((jg 48 43 true (.idx (.t 45) (.t 47) 2))), ((jg 49 43 true (.load (.ag [.s, .s]) (.t 48)))), ((jg 50 43 true (.load (.ag [.s, .s]) (.t 4)))), (.mk (some 51) (some (43, true)) false (.call (.k (.fn 130 [] [])) [(.t 49), (.t 50)])), ((jg 52 43 true (.un .not (.t 51)))), ((jg 53 40 false (.pick (.t 43) (.t 52) (.k (.bool false))))), ((jv 54 (.pick (.t 40) (.k (.bool true)) (.t 53))))] []) A72_5)
def A72_6 : AC := (.reg [] [(jm 10 3), ((jv 11 (.bin .add (.t 10) (jn 1)))), (jm 3 11)] [])
def A72_3 : AC := (.seq (.block 1 (.seq (.reg [.clr [4]] [((jv 12 (.fld (.t 1) 1 1))), ((jv 13 (.load .p (.t 12)))), (jm 14 3), ((jv 15 (.idx (.t 13) (.t 14) 2))), ((jv 16 (.load (.ag [.s, .s]) (.t 15)))), (.mk (some 4) none false (.alloc (.agg [(.int .i64 (.ofNat 0)), (.int .i64 (.ofNat 0))]))), (.mk none none false (.store (.ag [.s, .s]) (.t 4) (.t 16)))] []) A72_4)) A72_6)
def A72_1 : AC := (.seq (.seq (.reg [] [(jm 5 3), ((jv 6 (.fld (.t 1) 1 1))), ((jv 7 (.load .p (.t 6)))), ((jv 8 (.len (.t 7)))), ((jv 9 (.bin .lss (.t 5) (.t 8))))] []) A72_2) A72_3)
def A72_7 : AC := (.seq (.reg [] [((jv 55 (.fld (.t 1) 0 0))), ((jv 56 (.load .s (.t 55)))), (.mk (some 57) none false (.call (.k (.fn 103 [] [])) [(.t 56), (jn 0), (jn 8)])), (jm 2 57)] []) .ret)
def A72_9 : AC := (.block 0 (.loop A72_1))
def A72_8 : AC := (.seq (.seq (.reg [] [((jv 3 (.mov (jn 0))))] []) A72_9) A72_7)
def A72 : AC := (.seq (.reg [.clr [1]] [(.mk (some 1) none false (.box (.t 0))), ((jv 2 (.mov (.k (.bool false)))))] []) A72_8)
def an72 : List An := [{ id := 0, pre := [.clr [1]], ep := [], lin := [], sp := [] }, { id := 4, pre := [.clr [4]], ep := [], lin := [], sp := [] }]
theorem c72 : cC Try.prog Try.f72.ntmps an72 (Try.f72.body.getD .skip) = some A72 := by kernel_rfl
structure H72 (D : Den) (σ : Sig) (F : Nat) : Prop where
  c103 : ∀ (x0 : Int) (x1 : Int) (x2 : Int) r, s_l1In F x0 x1 x2 = some r → D 103 [Enc.enc x0, Enc.enc x1, Enc.enc x2] = some (Enc.enc (r : Bool))
  g103 : σ 103 = some (0, false)
  c130 : ∀ (x0 : (Int × Int)) (x1 : (Int × Int)) r, s_l2Before F x0 x1 = some r → D 130 [Enc.enc x0, Enc.enc x1] = some (Enc.enc (r : Bool))
  g130 : σ 130 = some (0, false)
abbrev R72 (r : Bool) : (Nat → V) → Prop := RR Try.prog [.tmp 2] 0 false (Enc.enc (r : Bool))
section
variable {D : Den} {σ : Sig} {F : Nat} {r : Bool}
def s_l2Good_j1 (F : Nat) (x_1 : (Int × (List (Int × Int)))) (x_12 : Int) (c1 : Int → Option Bool) (x_28 : Bool) : Option Bool :=
  bif x_28 then
    some false
  else
    c1 (w64 (x_12 + 1))
theorem t_f72_j1 (H : H72 D σ F) (x_1 : (Int × (List (Int × Int)))) (x_12 : Int) (c1 : Int → Option Bool) (Hc1 : ∀ (x_12 : Int) (s : Nat → V), Facts [(1, (.ref (.bx 1) 0 [] (.agg [(ji x_1.1), (Enc.enc (x_1.2 : List (Int × Int)))]))), (2, (jb false)), (3, (ji x_12))] s → c1 x_12 = some r → Run D σ (R72 r) (.run A72_1 [.lp A72_1, .bk 0, .sq A72_7]) s) (x_28 : Bool) (s : Nat → V) (hs : Facts [(1, (.ref (.bx 1) 0 [] (.agg [(ji x_1.1), (Enc.enc (x_1.2 : List (Int × Int)))]))), (2, (jb false)), (3, (ji x_12)), (54, (jb x_28))] s) (h : s_l2Good_j1 F x_1 x_12 c1 x_28 = some r) : Run D σ (R72 r) (.nrm [.sq A72_5, .bk 1, .sq A72_6, .lp A72_1, .bk 0, .sq A72_7]) s := by
  unfold s_l2Good_j1 at h
  obtain ⟨h1, h2, h3, h54⟩ := hs
  refine .nsq (run_cond (t := x_28) h54 h (fun h => ?_) (fun h => ?_))
  · refine .seq (rg (g0 (jb false) fun h2 => ?_))
    refine gq (.nsq (.ret ?_))
    have hr := Option.some.inj h
    subst hr
    exact rrA (res_tmp h2) rfl
  refine .skip (.nbk (.nsq (rg (gm h3 fun h10 => g1 10 (ji (w64 (x_12 + 1))) h10 fun h11 => ?_))))
  refine gm h11 fun h3 => gq (.nlp ?_)
  exact Hc1 (w64 (x_12 + 1)) _ ⟨h1, h2, h3⟩ h
def s_l2Good_l1 (F : Nat) (x_1 : (Int × (List (Int × Int))))  : Nat → Int → Option Bool
  | 0, _ => none
  | k + 1, x_12 =>
    bif decide (x_12 < (x_1.2.length : Int)) then
      (idx x_1.2 x_12).bind fun e_23 =>
      (s_l1In F e_23.1 0 (w64 (x_1.1 - 1))).bind fun r_29 =>
      bif (!r_29) then
        s_l2Good_j1 F x_1 x_12 (s_l2Good_l1 F x_1 k) true
      else
        (s_l1In F e_23.2 0 (w64 (x_1.1 - 1))).bind fun r_30 =>
        bif (!r_30) then
          s_l2Good_j1 F x_1 x_12 (s_l2Good_l1 F x_1 k) true
        else
          bif decide (e_23.1 ≥ e_23.2) then
            s_l2Good_j1 F x_1 x_12 (s_l2Good_l1 F x_1 k) true
          else
            bif decide (x_12 > 0) then
              (idx x_1.2 (w64 (x_12 - 1))).bind fun e_31 =>
              (s_l2Before F e_31 e_23).bind fun r_32 =>
              s_l2Good_j1 F x_1 x_12 (s_l2Good_l1 F x_1 k) (!r_32)
            else
              s_l2Good_j1 F x_1 x_12 (s_l2Good_l1 F x_1 k) false
    else
      (s_l1In F x_1.1 0 8).bind fun r_33 =>
      some r_33
theorem t_f72_l1 (H : H72 D σ F) (x_1 : (Int × (List (Int × Int))))  : ∀ (k : Nat) (x_12 : Int) (s : Nat → V), Facts [(1, (.ref (.bx 1) 0 [] (.agg [(ji x_1.1), (Enc.enc (x_1.2 : List (Int × Int)))]))), (2, (jb false)), (3, (ji x_12))] s → s_l2Good_l1 F x_1 k x_12 = some r → Run D σ (R72 r) (.run A72_1 [.lp A72_1, .bk 0, .sq A72_7]) s := by
  intro k
  induction k with
  | zero => intro x_12 s _ h; exact nomatch (h : (none : Option _) = some r)
  | succ k ih =>
    intro x_12 s hs h
    rw [s_l2Good_l1] at h
    obtain ⟨h1, h2, h3⟩ := hs
    refine .seq (.seq (rg (gm h3 fun h5 => g1 1 (.ref (.bx 1) 0 [1] (Enc.enc (x_1.2 : List (Int × Int)))) h1 fun h6 => ?_)))
    refine g1 6 (Enc.enc (x_1.2 : List (Int × Int))) h6 fun h7 => ?_
    refine gv (ji (x_1.2.length : Int)) (ev_len (xs := x_1.2) h7) fun h8 => ?_
    refine g2 5 8 (jb (decide (x_12 < (x_1.2.length : Int)))) h5 h8 fun h9 => ?_
    refine gq (.nsq (run_cond (t := decide (x_12 < (x_1.2.length : Int))) h9 h (fun h => ?_) (fun h => ?_)))
    · refine .skip (.nsq (.seq (.block (.seq (run_reg ?_)))))
      refine e_clr ?_
      refine ez [(1, _), (2, _), (3, _), (4, _)] ⟨(keep_clear (pk := [4]) h1 rfl (map_bx rfl (map_agg (maps_cons mi (maps_cons me maps_nil))))), (keep_clear (pk := [4]) h2 rfl mb), (keep_clear (pk := [4]) h3 rfl mi), (gone_clear (pk := [4]) (t := 4) rfl)⟩ ?_
      rintro s ⟨h1, h2, h3, h4⟩
      refine g1 1 (.ref (.bx 1) 0 [1] (Enc.enc (x_1.2 : List (Int × Int)))) h1 fun h12 => ?_
      refine g1 12 (Enc.enc (x_1.2 : List (Int × Int))) h12 fun h13 => ?_
      refine gm h3 fun h14 => ?_
      obtain ⟨e_23, E_e_23, h⟩ := bind_some h
      refine gv (.ref .sh 0 [] (.agg [(ji e_23.1), (ji e_23.2)])) (ev_idx (t := .sh) (lo := 0) (xs := x_1.2) h13 h14 E_e_23 rfl rfl) fun h15 => ?_
      refine g1 15 (.agg [(ji e_23.1), (ji e_23.2)]) h15 fun h16 => ?_
      refine g_alloc h4 ?_
      refine g_store (.agg [(ji e_23.1), (ji e_23.2)]) (rd_of rfl rfl) (rd_of h16 rfl) (by refine ⟨by decide, by decide, rfl, rfl, rfl, ?_⟩; first | rfl | simp [V.toks, V.tokss, Enc.toks_enc]) ?_
      refine gz [(1, (.ref (.bx 1) 0 [] (.agg [(ji x_1.1), (Enc.enc (x_1.2 : List (Int × Int)))]))), (2, (jb false)), (3, (ji x_12)), (4, (.ref (.bx 4) 0 [] (.agg [(ji e_23.1), (ji e_23.2)])))] ⟨(keep_mut h1 (mut_ref_ne rfl rfl (mut_agg (muts_cons rfl (muts_cons (Enc.mut_enc _ _ _ _ (x_1.2 : List (Int × Int))) rfl))))), (keep_mut h2 rfl), (keep_mut h3 rfl), (keep_mut rfl rfl)⟩ ?_
      rintro s ⟨h1, h2, h3, h4⟩
      refine .nsq (.seq (rg (g1 4 (.ref (.bx 4) 0 [0] (ji e_23.1)) h4 fun h17 => ?_)))
      refine g1 17 (ji e_23.1) h17 fun h18 => ?_
      refine g1 1 (.ref (.bx 1) 0 [0] (ji x_1.1)) h1 fun h19 => ?_
      refine g1 19 (ji x_1.1) h19 fun h20 => ?_
      refine g1 20 (ji (w64 (x_1.1 - 1))) h20 fun h21 => ?_
      obtain ⟨r_29, E_r_29, h⟩ := bind_some h
      refine g_call (m := 0) (al := false) (r := (Enc.enc (r_29 : Bool))) [Enc.enc (e_23.1 : Int), Enc.enc (0 : Int), Enc.enc (w64 (x_1.1 - 1) : Int)] (ta_cons (v := (ji e_23.1)) h18 rfl rfl (ta_cons (v := (ji 0)) rfl rfl rfl (ta_cons (v := (ji (w64 (x_1.1 - 1)))) h21 rfl rfl ta_nil))) (H.c103 _ _ _ _ E_r_29) H.g103 rfl rfl rfl rfl ?_
      refine g1 22 (jb (!r_29)) (rfl : (_ : V) = (jb r_29)) fun h23 => ?_
      refine gm h23 fun h24 => split_on (c := (!r_29)) h (fun hg8 h => ?_) (fun hg8 h => ?_)
      · refine g_no (h24.trans (congrArg V.bool hg8)) ?_
        refine g_no (h24.trans (congrArg V.bool hg8)) ?_
        refine g_no (h24.trans (congrArg V.bool hg8)) ?_
        refine g_no (h24.trans (congrArg V.bool hg8)) ?_
        refine g_no (h24.trans (congrArg V.bool hg8)) ?_
        refine g_no (h24.trans (congrArg V.bool hg8)) ?_
        refine g_no (h24.trans (congrArg V.bool hg8)) ?_
        refine g2 24 31 (jb true) (h24.trans (congrArg V.bool hg8)) (rfl : (_ : V) = (.tup [])) fun h32 => ?_
        refine gm h32 fun h33 => g_no h33 ?_
        refine g_no h33 ?_
        refine g_no h33 ?_
        refine g_no h33 ?_
        refine g_no h33 ?_
        refine g2 33 38 (jb true) h33 (rfl : (_ : V) = (.tup [])) fun h39 => ?_
        refine gm h39 fun h40 => g_no h40 ?_
        refine g_no h40 ?_
        refine g_no h40 ?_
        refine g_skip rfl ?_
        refine g_skip rfl ?_
        refine g_skip rfl ?_
        refine g_skip rfl ?_
        refine g_skip rfl ?_
        refine g_skip rfl ?_
        refine g_skip rfl ?_
        refine g_skip rfl ?_
        refine g_skip rfl ?_
        refine g_no h40 ?_
        refine g2 40 53 (jb true) h40 (rfl : (_ : V) = (.tup [])) fun h54 => ?_
        refine gz [(1, _), (2, _), (3, _), (54, _)] ⟨h1, h2, h3, h54⟩ ?_
        rintro s ⟨h1, h2, h3, h54⟩
        exact t_f72_j1 H x_1 x_12 (s_l2Good_l1 F x_1 k) ih true _ ⟨h1, h2, h3, h54⟩ h
      refine g_yes (h24.trans (congrArg V.bool hg8)) (g1 4 (.ref (.bx 4) 0 [1] (ji e_23.2)) h4 fun h25 => ?_)
      refine g_yes (h24.trans (congrArg V.bool hg8)) (g1 25 (ji e_23.2) h25 fun h26 => ?_)
      refine g_yes (h24.trans (congrArg V.bool hg8)) (g1 1 (.ref (.bx 1) 0 [0] (ji x_1.1)) h1 fun h27 => ?_)
      refine g_yes (h24.trans (congrArg V.bool hg8)) (g1 27 (ji x_1.1) h27 fun h28 => ?_)
      refine g_yes (h24.trans (congrArg V.bool hg8)) (g1 28 (ji (w64 (x_1.1 - 1))) h28 fun h29 => ?_)
      obtain ⟨r_30, E_r_30, h⟩ := bind_some h
      refine g_yes (h24.trans (congrArg V.bool hg8)) (g_call (m := 0) (al := false) (r := (Enc.enc (r_30 : Bool))) [Enc.enc (e_23.2 : Int), Enc.enc (0 : Int), Enc.enc (w64 (x_1.1 - 1) : Int)] (ta_cons (v := (ji e_23.2)) h26 rfl rfl (ta_cons (v := (ji 0)) rfl rfl rfl (ta_cons (v := (ji (w64 (x_1.1 - 1)))) h29 rfl rfl ta_nil))) (H.c103 _ _ _ _ E_r_30) H.g103 rfl rfl rfl rfl ?_)
      refine g_yes (h24.trans (congrArg V.bool hg8)) (g1 30 (jb (!r_30)) (rfl : (_ : V) = (jb r_30)) fun h31 => ?_)
      refine g2 24 31 (jb (!r_30)) (h24.trans (congrArg V.bool hg8)) h31 fun h32 => ?_
      refine gm h32 fun h33 => split_on (c := (!r_30)) h (fun hg17 h => ?_) (fun hg17 h => ?_)
      · refine g_no (h33.trans (congrArg V.bool hg17)) ?_
        refine g_no (h33.trans (congrArg V.bool hg17)) ?_
        refine g_no (h33.trans (congrArg V.bool hg17)) ?_
        refine g_no (h33.trans (congrArg V.bool hg17)) ?_
        refine g_no (h33.trans (congrArg V.bool hg17)) ?_
        refine g2 33 38 (jb true) (h33.trans (congrArg V.bool hg17)) (rfl : (_ : V) = (.tup [])) fun h39 => ?_
        refine gm h39 fun h40 => g_no h40 ?_
        refine g_no h40 ?_
        refine g_no h40 ?_
        refine g_skip rfl ?_
        refine g_skip rfl ?_
        refine g_skip rfl ?_
        refine g_skip rfl ?_
        refine g_skip rfl ?_
        refine g_skip rfl ?_
        refine g_skip rfl ?_
        refine g_skip rfl ?_
        refine g_skip rfl ?_
        refine g_no h40 ?_
        refine g2 40 53 (jb true) h40 (rfl : (_ : V) = (.tup [])) fun h54 => ?_
        refine gz [(1, _), (2, _), (3, _), (54, _)] ⟨h1, h2, h3, h54⟩ ?_
        rintro s ⟨h1, h2, h3, h54⟩
        exact t_f72_j1 H x_1 x_12 (s_l2Good_l1 F x_1 k) ih true _ ⟨h1, h2, h3, h54⟩ h
      refine g_yes (h33.trans (congrArg V.bool hg17)) (g1 4 (.ref (.bx 4) 0 [0] (ji e_23.1)) h4 fun h34 => ?_)
      refine g_yes (h33.trans (congrArg V.bool hg17)) (g1 34 (ji e_23.1) h34 fun h35 => ?_)
      refine g_yes (h33.trans (congrArg V.bool hg17)) (g1 4 (.ref (.bx 4) 0 [1] (ji e_23.2)) h4 fun h36 => ?_)
      refine g_yes (h33.trans (congrArg V.bool hg17)) (g1 36 (ji e_23.2) h36 fun h37 => ?_)
      refine g_yes (h33.trans (congrArg V.bool hg17)) (g2 35 37 (jb (decide (e_23.1 ≥ e_23.2))) h35 h37 fun h38 => ?_)
      refine g2 33 38 (jb (decide (e_23.1 ≥ e_23.2))) (h33.trans (congrArg V.bool hg17)) h38 fun h39 => ?_
      refine gm h39 fun h40 => split_on (c := decide (e_23.1 ≥ e_23.2)) h (fun hg24 h => ?_) (fun hg24 h => ?_)
      · refine g_no (h40.trans (congrArg V.bool hg24)) ?_
        refine g_no (h40.trans (congrArg V.bool hg24)) ?_
        refine g_no (h40.trans (congrArg V.bool hg24)) ?_
        refine g_skip rfl ?_
        refine g_skip rfl ?_
        refine g_skip rfl ?_
        refine g_skip rfl ?_
        refine g_skip rfl ?_
        refine g_skip rfl ?_
        refine g_skip rfl ?_
        refine g_skip rfl ?_
        refine g_skip rfl ?_
        refine g_no (h40.trans (congrArg V.bool hg24)) ?_
        refine g2 40 53 (jb true) (h40.trans (congrArg V.bool hg24)) (rfl : (_ : V) = (.tup [])) fun h54 => ?_
        refine gz [(1, _), (2, _), (3, _), (54, _)] ⟨h1, h2, h3, h54⟩ ?_
        rintro s ⟨h1, h2, h3, h54⟩
        exact t_f72_j1 H x_1 x_12 (s_l2Good_l1 F x_1 k) ih true _ ⟨h1, h2, h3, h54⟩ h
      refine g_yes (h40.trans (congrArg V.bool hg24)) (gm h3 fun h41 => ?_)
      refine g_yes (h40.trans (congrArg V.bool hg24)) (g1 41 (jb (decide (x_12 > 0))) h41 fun h42 => ?_)
      refine g_yes (h40.trans (congrArg V.bool hg24)) (gm h42 fun h43 => ?_)
      refine split_on (c := decide (x_12 > 0)) h (fun hg27 h => ?_) (fun hg27 h => ?_)
      · refine g_yes (h43.trans (congrArg V.bool hg27)) (g1 1 (.ref (.bx 1) 0 [1] (Enc.enc (x_1.2 : List (Int × Int)))) h1 fun h44 => ?_)
        refine g_yes (h43.trans (congrArg V.bool hg27)) (g1 44 (Enc.enc (x_1.2 : List (Int × Int))) h44 fun h45 => ?_)
        refine g_yes (h43.trans (congrArg V.bool hg27)) (gm h3 fun h46 => ?_)
        refine g_yes (h43.trans (congrArg V.bool hg27)) (g1 46 (ji (w64 (x_12 - 1))) h46 fun h47 => ?_)
        obtain ⟨e_31, E_e_31, h⟩ := bind_some h
        refine g_yes (h43.trans (congrArg V.bool hg27)) (gv (.ref .sh 0 [] (.agg [(ji e_31.1), (ji e_31.2)])) (ev_idx (t := .sh) (lo := 0) (xs := x_1.2) h45 h47 E_e_31 rfl rfl) fun h48 => ?_)
        refine g_yes (h43.trans (congrArg V.bool hg27)) (g1 48 (.agg [(ji e_31.1), (ji e_31.2)]) h48 fun h49 => ?_)
        refine g_yes (h43.trans (congrArg V.bool hg27)) (g1 4 (.agg [(ji e_23.1), (ji e_23.2)]) h4 fun h50 => ?_)
        obtain ⟨r_32, E_r_32, h⟩ := bind_some h
        refine g_yes (h43.trans (congrArg V.bool hg27)) (g_call (m := 0) (al := false) (r := (Enc.enc (r_32 : Bool))) [Enc.enc (e_31 : (Int × Int)), Enc.enc (e_23 : (Int × Int))] (ta_cons (v := (.agg [(ji e_31.1), (ji e_31.2)])) h49 rfl (Enc.erase_enc (e_31 : (Int × Int))) (ta_cons (v := (.agg [(ji e_23.1), (ji e_23.2)])) h50 rfl (Enc.erase_enc (e_23 : (Int × Int))) ta_nil)) (H.c130 _ _ _ E_r_32) H.g130 rfl rfl rfl rfl ?_)
        refine g_yes (h43.trans (congrArg V.bool hg27)) (g1 51 (jb (!r_32)) (rfl : (_ : V) = (jb r_32)) fun h52 => ?_)
        refine g_yes (h40.trans (congrArg V.bool hg24)) (g2 43 52 (jb (!r_32)) (h43.trans (congrArg V.bool hg27)) h52 fun h53 => ?_)
        refine g2 40 53 (jb (!r_32)) (h40.trans (congrArg V.bool hg24)) h53 fun h54 => ?_
        refine gz [(1, _), (2, _), (3, _), (54, _)] ⟨h1, h2, h3, h54⟩ ?_
        rintro s ⟨h1, h2, h3, h54⟩
        exact t_f72_j1 H x_1 x_12 (s_l2Good_l1 F x_1 k) ih (!r_32) _ ⟨h1, h2, h3, h54⟩ h
      refine g_no (h43.trans (congrArg V.bool hg27)) ?_
      refine g_no (h43.trans (congrArg V.bool hg27)) ?_
      refine g_no (h43.trans (congrArg V.bool hg27)) ?_
      refine g_no (h43.trans (congrArg V.bool hg27)) ?_
      refine g_no (h43.trans (congrArg V.bool hg27)) ?_
      refine g_no (h43.trans (congrArg V.bool hg27)) ?_
      refine g_no (h43.trans (congrArg V.bool hg27)) ?_
      refine g_no (h43.trans (congrArg V.bool hg27)) ?_
      refine g_no (h43.trans (congrArg V.bool hg27)) ?_
      refine g_yes (h40.trans (congrArg V.bool hg24)) (g2 43 52 (jb false) (h43.trans (congrArg V.bool hg27)) (rfl : (_ : V) = (.tup [])) fun h53 => ?_)
      refine g2 40 53 (jb false) (h40.trans (congrArg V.bool hg24)) h53 fun h54 => ?_
      refine gz [(1, _), (2, _), (3, _), (54, _)] ⟨h1, h2, h3, h54⟩ ?_
      rintro s ⟨h1, h2, h3, h54⟩
      exact t_f72_j1 H x_1 x_12 (s_l2Good_l1 F x_1 k) ih false _ ⟨h1, h2, h3, h54⟩ h
    refine .exit (.esq (.elp (.ebk (.nsq (.seq (rg (g1 1 (.ref (.bx 1) 0 [0] (ji x_1.1)) h1 fun h55 => ?_)))))))
    refine g1 55 (ji x_1.1) h55 fun h56 => ?_
    obtain ⟨r_33, E_r_33, h⟩ := bind_some h
    refine g_call (m := 0) (al := false) (r := (Enc.enc (r_33 : Bool))) [Enc.enc (x_1.1 : Int), Enc.enc (0 : Int), Enc.enc (8 : Int)] (ta_cons (v := (ji x_1.1)) h56 rfl rfl (ta_cons (v := (ji 0)) rfl rfl rfl (ta_cons (v := (ji 8)) rfl rfl rfl ta_nil))) (H.c103 _ _ _ _ E_r_33) H.g103 rfl rfl rfl rfl ?_
    refine gm (rfl : (_ : V) = (jb r_33)) fun h2 => ?_
    refine gq (.nsq (.ret ?_))
    have hr := Option.some.inj h
    subst hr
    exact rrA (res_tmp h2) rfl
def s_l2Good (F : Nat) (x_1 : (Int × (List (Int × Int)))) : Option Bool :=
  s_l2Good_l1 F x_1 F 0
theorem t72 (H : H72 D σ F) (x_1 : (Int × (List (Int × Int)))) (s : Nat → V) (hs : Facts [(0, (.agg [(ji x_1.1), (Enc.enc (x_1.2 : List (Int × Int)))]))] s) (h : s_l2Good F x_1 = some r) : Run D σ (R72 r) (.run A72 []) s := by
  unfold s_l2Good at h
  have h0 := hs
  refine .seq (run_reg ?_)
  refine e_clr ?_
  refine ez [(0, _), (1, _)] ⟨(keep_clear (pk := [1]) h0 rfl (map_agg (maps_cons mi (maps_cons me maps_nil)))), (gone_clear (pk := [1]) (t := 1) rfl)⟩ ?_
  rintro s ⟨h0, h1⟩
  refine g_box (.agg [(ji x_1.1), (Enc.enc (x_1.2 : List (Int × Int)))]) (rd_of h0 rfl) h1 rfl ?_
  refine g0 (jb false) fun h2 => ?_
  refine gq (.nsq (.seq (.seq (rg (g0 (ji 0) fun h3 => gq (.nsq (.block (.loop ?_))))))))
  exact t_f72_l1 H x_1 F 0 _ ⟨rfl, h2, h3⟩ h
end
def e72 (F : Nat) : Ent := ent 72 (fun (x : ((Int × (List (Int × Int))) × Unit)) => s_l2Good F x.1) (fun (r : Bool) => (Enc.enc (r : Bool))) 0 false []
theorem p72 {F : Nat} {x0 : (Int × (List (Int × Int)))} {r : Bool} (h : s_l2Good F x0 = some r) : (e72 F).den [Enc.enc x0] = some (Enc.enc (r : Bool)) := ent_put (x0, ()) h
theorem o72 {D : Den} {σ : Sig} {F : Nat} (hF : Fits2 Try.prog D σ) (H : H72 D σ F) : (e72 F).Ok Try.prog := by
  refine ok_of (f := 72) (show unk 72 = 72 from rfl) (fun args r h => ?_) ⟨Try.f72, Try.func72, rfl, rfl⟩
  obtain ⟨⟨x0, _⟩, y, rfl, hy, rfl⟩ := da_open h
  exact contract_run hF (by kernel_rfl) Try.func72 rfl c72 (show 1 ≤ Try.f72.ntmps by decide) (t72 H x0 _ rfl hy)
/- loop.example/g01109/spec.l2Bits -/
def A87_2 : AC := (.cond (.t 10) .skip (.exit 0))
def A87_4 : AC := (.cond (.t 17) (.reg [.clr [20, 21]] [(jm 18 5), (jm 19 6), (.mk (some 20) none false (.lit (.int .i64 (.ofNat 0)) 1 [(0, 0, (.t 19))])), (.mk (some 21) none false (.app .s (.t 18) (.t 20))), (jm 5 21)] [.home 21 5]) .skip)
def A87_5 : AC := (.reg [] [(jm 11 6), ((jv 12 (.bin .add (.t 11) (jn 1)))), (jm 6 12)] [])
def A87_3 : AC := (.seq (.block 1 (.seq (.reg [] [(jm 13 1), (jm 14 6), ((jv 15 (.bin .shr (.t 13) (.t 14)))), ((jv 16 (.bin .and (.t 15) (jn 1)))), ((jv 17 (.bin .eql (.t 16) (jn 1))))] []) A87_4)) A87_5)
def A87_1 : AC := (.seq (.seq (.reg [] [(jm 8 6), (jm 9 0), ((jv 10 (.bin .lss (.t 8) (.t 9))))] []) A87_2) A87_3)
def A87_6 : AC := (.seq (.reg [] [(jm 22 5), (jm 4 22)] [.home 5 4]) .ret)
def A87_9 : AC := (.block 0 (.loop A87_1))
def A87_8 : AC := (.seq (.seq (.reg [] [((jv 6 (.mov (jn 0))))] []) A87_9) A87_6)
def A87_7 : AC := (.seq (.reg [.clr [7]] [(.mk (some 7) none false (.lit (.int .i64 (.ofNat 0)) 0 [])), (jm 5 7)] [.home 7 5]) A87_8)
def A87 : AC := (.seq (.reg [] [((jv 4 (.mov (.k (.sl .nl .s 0 [])))))] []) A87_7)
def an87 : List An := [{ id := 1, pre := [.clr [7]], ep := [.home 7 5], lin := [], sp := [] }, { id := 6, pre := [.clr [20, 21]], ep := [.home 21 5], lin := [], sp := [] }, { id := 7, pre := [], ep := [.home 5 4], lin := [], sp := [] }]
theorem c87 : cC Try.prog Try.f87.ntmps an87 (Try.f87.body.getD .skip) = some A87 := by kernel_rfl
structure H87 (D : Den) (σ : Sig) (F : Nat) : Prop where
  mk ::
abbrev R87 (r : (List Int)) : (Nat → V) → Prop := RR Try.prog [.tmp 4] 0 false (Enc.enc (r : (List Int)))
section
variable {D : Den} {σ : Sig} {F : Nat} {r : (List Int)}
def s_l2Bits_j1 (F : Nat) (x_1 : Int) (x_2 : Int) (x_8 : Int) (c1 : (List Int) → Int → Option (List Int)) (x_15 : (List Int)) : Option (List Int) :=
  c1 x_15 (w64 (x_8 + 1))
theorem t_f87_j1 (H : H87 D σ F) (x_1 : Int) (x_2 : Int) (x_8 : Int) (c1 : (List Int) → Int → Option (List Int)) (Hc1 : ∀ (x_7 : (List Int)) (x_8 : Int) (s : Nat → V), Facts [(0, (ji x_1)), (1, (ji x_2)), (4, (.sl .nl (Enc.shp Int) 0 [])), (5, (oI 5 [] (.of x_7))), (6, (ji x_8))] s → c1 x_7 x_8 = some r → Run D σ (R87 r) (.run A87_1 [.lp A87_1, .bk 0, .sq A87_6]) s) (x_15 : (List Int)) (s : Nat → V) (hs : Facts [(0, (ji x_1)), (1, (ji x_2)), (4, (.sl .nl (Enc.shp Int) 0 [])), (5, (oI 5 [] (.of x_15))), (6, (ji x_8))] s) (h : s_l2Bits_j1 F x_1 x_2 x_8 c1 x_15 = some r) : Run D σ (R87 r) (.nrm [.bk 1, .sq A87_5, .lp A87_1, .bk 0, .sq A87_6]) s := by
  unfold s_l2Bits_j1 at h
  obtain ⟨h0, h1, h4, h5, h6⟩ := hs
  refine .nbk (.nsq (rg (gm h6 fun h11 => g1 11 (ji (w64 (x_8 + 1))) h11 fun h12 => ?_)))
  refine gm h12 fun h6 => gq (.nlp ?_)
  exact Hc1 x_15 (w64 (x_8 + 1)) _ ⟨h0, h1, h4, h5, h6⟩ h
def s_l2Bits_l1 (F : Nat) (x_1 : Int) (x_2 : Int)  : Nat → (List Int) → Int → Option (List Int)
  | 0, _, _ => none
  | k + 1, x_7, x_8 =>
    bif decide (x_8 < x_1) then
      (shrI .i64 x_2 x_8).bind fun q_13 =>
      bif ((iand .i64 q_13 1) == 1) then
        (appL x_7 [x_8]).bind fun ap_16 =>
        s_l2Bits_j1 F x_1 x_2 x_8 (s_l2Bits_l1 F x_1 x_2 k) ap_16
      else
        s_l2Bits_j1 F x_1 x_2 x_8 (s_l2Bits_l1 F x_1 x_2 k) x_7
    else
      some x_7
theorem t_f87_l1 (H : H87 D σ F) (x_1 : Int) (x_2 : Int)  : ∀ (k : Nat) (x_7 : (List Int)) (x_8 : Int) (s : Nat → V), Facts [(0, (ji x_1)), (1, (ji x_2)), (4, (.sl .nl (Enc.shp Int) 0 [])), (5, (oI 5 [] (.of x_7))), (6, (ji x_8))] s → s_l2Bits_l1 F x_1 x_2 k x_7 x_8 = some r → Run D σ (R87 r) (.run A87_1 [.lp A87_1, .bk 0, .sq A87_6]) s := by
  intro k
  induction k with
  | zero => intro x_7 x_8 s _ h; exact nomatch (h : (none : Option _) = some r)
  | succ k ih =>
    intro x_7 x_8 s hs h
    rw [s_l2Bits_l1] at h
    obtain ⟨h0, h1, h4, h5, h6⟩ := hs
    refine .seq (.seq (rg (gm h6 fun h8 => gm h0 fun h9 => g2 8 9 (jb (decide (x_8 < x_1))) h8 h9 fun h10 => ?_)))
    refine gq (.nsq (run_cond (t := decide (x_8 < x_1)) h10 h (fun h => ?_) (fun h => ?_)))
    · refine .skip (.nsq (.seq (.block (.seq (rg (gm h1 fun h13 => gm h6 fun h14 => ?_))))))
      obtain ⟨q_13, E_q_13, h⟩ := bind_some h
      refine gv (ji q_13) (ev_shr h13 h14 E_q_13) fun h15 => ?_
      refine g1 15 (ji (iand .i64 q_13 1)) h15 fun h16 => ?_
      refine g1 16 (jb ((iand .i64 q_13 1) == 1)) h16 fun h17 => ?_
      refine gq (.nsq (run_cond (t := ((iand .i64 q_13 1) == 1)) h17 h (fun h => ?_) (fun h => ?_)))
      · refine run_reg ?_
        refine e_clr ?_
        refine ez [(0, _), (1, _), (4, _), (5, _), (6, _), (20, _), (21, _)] ⟨(keep_clear (pk := [20, 21]) h0 rfl mi), (keep_clear (pk := [20, 21]) h1 rfl mi), (keep_clear (pk := [20, 21]) h4 rfl rfl), (keep_clear (pk := [20, 21]) h5 rfl (map_encO (r := 5) (p := []) rfl rfl)), (keep_clear (pk := [20, 21]) h6 rfl mi), (gone_clear (pk := [20, 21]) (t := 20) rfl), (gone_clear (pk := [20, 21]) (t := 21) rfl)⟩ ?_
        rintro s ⟨h0, h1, h4, h5, h6, h20, h21⟩
        refine gm h5 fun h18 => gm h6 fun h19 => g_litL [(19, (ji x_8))] [Enc.enc (x_8 : Int)] h19 rfl rfl h20 ?_
        obtain ⟨ap_16, E_ap_16, h⟩ := bind_some h
        refine g_app (q := 5) (p := []) (o := (.of (x_7 : List Int))) (ys := ([x_8] : List Int)) (t2 := (.at 20 [])) (lo2 := 0) h18 rfl rfl h21 (appN_L (o := (.of (x_7 : List Int))) E_ap_16 trivial) (fun s_19 ha_19 => ?_)
        refine gm (rfl : (_ : V) = (oI 21 [] (.of ap_16))) fun h5 => ?_
        refine g_end ?_
        refine e_home (r := 21) (x := 5) (v := _) h5 rfl (fun s_20 hg_20 => ?_)
        refine ez [(0, (ji x_1)), (1, (ji x_2)), (4, (.sl .nl (Enc.shp Int) 0 [])), (5, (oI 5 [] (.of ap_16))), (6, (ji x_8))] ⟨(hg_20 0 _ _ (show s_19 0 = (ji x_1) from keep_app ha_19 h0 mi) mi), (hg_20 1 _ _ (show s_19 1 = (ji x_2) from keep_app ha_19 h1 mi) mi), (hg_20 4 _ (.sl .nl (Enc.shp Int) 0 []) (show s_19 4 = (.sl .nl (Enc.shp Int) 0 []) from keep_app ha_19 h4 rfl) rfl), (hg_20 5 _ _ h5 (map_encO (r := 21) (p := []) rfl rfl)), (hg_20 6 _ _ (show s_19 6 = (ji x_8) from keep_app ha_19 h6 mi) mi)⟩ ?_
        rintro s ⟨h0, h1, h4, h5, h6⟩
        exact t_f87_j1 H x_1 x_2 x_8 (s_l2Bits_l1 F x_1 x_2 k) ih ap_16 _ ⟨h0, h1, h4, h5, h6⟩ h
      refine .skip ?_
      exact t_f87_j1 H x_1 x_2 x_8 (s_l2Bits_l1 F x_1 x_2 k) ih x_7 _ ⟨h0, h1, h4, h5, h6⟩ h
    refine .exit (.esq (.elp (.ebk (.nsq (.seq (rg (gm h5 fun h22 => gm h22 fun h4 => g_end ?_)))))))
    refine e_home (r := 5) (x := 4) (v := _) h4 rfl (fun s_21 hg_21 => ?_)
    refine ez [(4, (oI 4 [] (.of x_7)))] (hg_21 4 _ _ h4 (map_encO (r := 5) (p := []) rfl rfl)) ?_
    rintro s h4
    refine .nsq (.ret ?_)
    have hr := Option.some.inj h
    subst hr
    exact rrA (res_tmp h4) (fin_retF (fin_own (o := .of x_7)) (mine_own rfl))
def s_l2Bits (F : Nat) (x_1 : Int) (x_2 : Int) : Option (List Int) :=
  s_l2Bits_l1 F x_1 x_2 F [] 0
theorem t87 (H : H87 D σ F) (x_1 : Int) (x_2 : Int) (s : Nat → V) (hs : Facts [(0, (ji x_1)), (1, (ji x_2))] s) (h : s_l2Bits F x_1 x_2 = some r) : Run D σ (R87 r) (.run A87 []) s := by
  unfold s_l2Bits at h
  obtain ⟨h0, h1⟩ := hs
  refine .seq (rg (g0 (.sl .nl (Enc.shp Int) 0 []) fun h4 => ?_))
  refine gq (.nsq (.seq (run_reg ?_)))
  refine e_clr ?_
  refine ez [(0, _), (1, _), (4, _), (7, _)] ⟨(keep_clear (pk := [7]) h0 rfl mi), (keep_clear (pk := [7]) h1 rfl mi), (keep_clear (pk := [7]) h4 rfl rfl), (gone_clear (pk := [7]) (t := 7) rfl)⟩ ?_
  rintro s ⟨h0, h1, h4, h7⟩
  refine g_litL [] [] trivial rfl rfl h7 ?_
  refine gm (rfl : (_ : V) = (oI 7 [] (.of []))) fun h5 => ?_
  refine g_end ?_
  refine e_home (r := 7) (x := 5) (v := _) h5 rfl (fun s_2 hg_2 => ?_)
  refine ez [(0, (ji x_1)), (1, (ji x_2)), (4, (.sl .nl (Enc.shp Int) 0 [])), (5, (oI 5 [] (.of [])))] ⟨(hg_2 0 _ _ h0 mi), (hg_2 1 _ _ h1 mi), (hg_2 4 _ (.sl .nl (Enc.shp Int) 0 []) h4 rfl), (hg_2 5 _ _ h5 (map_encO (r := 7) (p := []) rfl rfl))⟩ ?_
  rintro s ⟨h0, h1, h4, h5⟩
  refine .nsq (.seq (.seq (rg (g0 (ji 0) fun h6 => gq (.nsq (.block (.loop ?_)))))))
  exact t_f87_l1 H x_1 x_2 F [] 0 _ ⟨h0, h1, h4, h5, h6⟩ h
end
def e87 (F : Nat) : Ent := ent 87 (fun (x : (Int × Int × Unit)) => s_l2Bits F x.1 x.2.1) (fun (r : (List Int)) => (Enc.enc (r : (List Int)))) 0 false []
theorem p87 {F : Nat} {x0 : Int} {x1 : Int} {r : (List Int)} (h : s_l2Bits F x0 x1 = some r) : (e87 F).den [Enc.enc x0, Enc.enc x1] = some (Enc.enc (r : (List Int))) := ent_put (x0, x1, ()) h
theorem o87 {D : Den} {σ : Sig} {F : Nat} (hF : Fits2 Try.prog D σ) (H : H87 D σ F) : (e87 F).Ok Try.prog := by
  refine ok_of (f := 87) (show unk 87 = 87 from rfl) (fun args r h => ?_) ⟨Try.f87, Try.func87, rfl, rfl⟩
  obtain ⟨⟨x0, x1, _⟩, y, rfl, hy, rfl⟩ := da_open h
  exact contract_run hF (by kernel_rfl) Try.func87 rfl c87 (show 2 ≤ Try.f87.ntmps by decide) (t87 H x0 x1 _ ⟨rfl, rfl⟩ hy)
/- loop.example/g01109/spec.l2All -/
def A86_1 : AC := (.seq (.reg [] [((jv 3 (.fld (.t 1) 0 0))), ((jv 4 (.load .s (.t 3)))), ((jv 5 (.fld (.t 1) 0 0))), ((jv 6 (.load .s (.t 5)))), ((jv 7 (.bin .shl (jn 1) (.t 6)))), ((jv 8 (.bin .sub (.t 7) (jn 1)))), (.mk (some 9) none false (.call (.k (.fn 87 [] [])) [(.t 4), (.t 8)])), (jm 2 9)] []) .ret)
def A86 : AC := (.seq (.reg [.clr [1]] [(.mk (some 1) none false (.box (.t 0))), ((jv 2 (.mov (.k (.sl .nl .s 0 [])))))] []) A86_1)
def an86 : List An := [{ id := 0, pre := [.clr [1]], ep := [], lin := [], sp := [] }]
theorem c86 : cC Try.prog Try.f86.ntmps an86 (Try.f86.body.getD .skip) = some A86 := by kernel_rfl
structure H86 (D : Den) (σ : Sig) (F : Nat) : Prop where
  c87 : ∀ (x0 : Int) (x1 : Int) r, s_l2Bits F x0 x1 = some r → D 87 [Enc.enc x0, Enc.enc x1] = some (Enc.enc (r : (List Int)))
  g87 : σ 87 = some (0, false)
abbrev R86 (r : (List Int)) : (Nat → V) → Prop := RR Try.prog [.tmp 2] 0 true (Enc.enc (r : (List Int)))
section
variable {D : Den} {σ : Sig} {F : Nat} {r : (List Int)}
def s_l2All (F : Nat) (x_1 : (Int × (List (Int × Int)))) : Option (List Int) :=
  (shlI .i64 1 x_1.1).bind fun q_2 =>
  (s_l2Bits F x_1.1 (w64 (q_2 - 1))).bind fun r_3 =>
  some r_3
theorem t86 (H : H86 D σ F) (x_1 : (Int × (List (Int × Int)))) (s : Nat → V) (hs : Facts [(0, (.agg [(ji x_1.1), (Enc.enc (x_1.2 : List (Int × Int)))]))] s) (h : s_l2All F x_1 = some r) : Run D σ (R86 r) (.run A86 []) s := by
  unfold s_l2All at h
  have h0 := hs
  refine .seq (run_reg ?_)
  refine e_clr ?_
  refine ez [(0, _), (1, _)] ⟨(keep_clear (pk := [1]) h0 rfl (map_agg (maps_cons mi (maps_cons me maps_nil)))), (gone_clear (pk := [1]) (t := 1) rfl)⟩ ?_
  rintro s ⟨h0, h1⟩
  refine g_box (.agg [(ji x_1.1), (Enc.enc (x_1.2 : List (Int × Int)))]) (rd_of h0 rfl) h1 rfl ?_
  refine g0 (.sl .nl (Enc.shp Int) 0 []) fun h2 => ?_
  refine gq (.nsq (.seq (rg (g1 1 (.ref (.bx 1) 0 [0] (ji x_1.1)) (rfl : (_ : V) = (.ref (.bx 1) 0 [] (.agg [(ji x_1.1), (Enc.enc (x_1.2 : List (Int × Int)))]))) fun h3 => ?_))))
  refine g1 3 (ji x_1.1) h3 fun h4 => ?_
  refine g1 1 (.ref (.bx 1) 0 [0] (ji x_1.1)) (rfl : (_ : V) = (.ref (.bx 1) 0 [] (.agg [(ji x_1.1), (Enc.enc (x_1.2 : List (Int × Int)))]))) fun h5 => ?_
  refine g1 5 (ji x_1.1) h5 fun h6 => ?_
  obtain ⟨q_2, E_q_2, h⟩ := bind_some h
  refine gv (ji q_2) (ev_shl rfl h6 E_q_2) fun h7 => ?_
  refine g1 7 (ji (w64 (q_2 - 1))) h7 fun h8 => ?_
  obtain ⟨r_3, E_r_3, h⟩ := bind_some h
  refine g_call (m := 0) (al := false) (r := (Enc.enc (r_3 : (List Int)))) [Enc.enc (x_1.1 : Int), Enc.enc (w64 (q_2 - 1) : Int)] (ta_cons (v := (ji x_1.1)) h4 rfl rfl (ta_cons (v := (ji (w64 (q_2 - 1)))) h8 rfl rfl ta_nil)) (H.c87 _ _ _ E_r_3) H.g87 rfl rfl rfl rfl ?_
  refine gm (rfl : (_ : V) = (eL r_3)) fun h2 => ?_
  refine gq (.nsq (.ret ?_))
  have hr := Option.some.inj h
  subst hr
  exact rrA (res_tmp h2) (fin_ret1 (fin_enc (x := (r_3 : (List Int)))))
end
def e86 (F : Nat) : Ent := ent 86 (fun (x : ((Int × (List (Int × Int))) × Unit)) => s_l2All F x.1) (fun (r : (List Int)) => (Enc.enc (r : (List Int)))) 0 true []
theorem p86 {F : Nat} {x0 : (Int × (List (Int × Int)))} {r : (List Int)} (h : s_l2All F x0 = some r) : (e86 F).den [Enc.enc x0] = some (Enc.enc (r : (List Int))) := ent_put (x0, ()) h
theorem o86 {D : Den} {σ : Sig} {F : Nat} (hF : Fits2 Try.prog D σ) (H : H86 D σ F) : (e86 F).Ok Try.prog := by
  refine ok_of (f := 86) (show unk 86 = 86 from rfl) (fun args r h => ?_) ⟨Try.f86, Try.func86, rfl, rfl⟩
  obtain ⟨⟨x0, _⟩, y, rfl, hy, rfl⟩ := da_open h
  exact contract_run hF (by kernel_rfl) Try.func86 rfl c86 (show 1 ≤ Try.f86.ntmps by decide) (t86 H x0 _ rfl hy)
/- loop.example/g01109/spec.l6Begin -/
def A154_1 : AC := (.seq (.reg [] [((jv 3 (.load (.ag [.s, .p]) (.t 1)))), (.mk (some 4) none false (.call (.k (.fn 86 [] [])) [(.t 3)])), ((jv 5 (.bld (.agg [(.sl .nl .s 0 []), (.sl .nl .s 0 [])]) [(1, 1, (.t 4))]))), (.mk none none false (.store (.ag [.p, .p]) (.t 2) (.t 5)))] []) .ret)
def A154 : AC := (.seq (.reg [.clr [1, 2]] [(.mk (some 1) none false (.box (.t 0))), (.mk (some 2) none false (.alloc (.agg [(.sl .nl .s 0 []), (.sl .nl .s 0 [])])))] []) A154_1)
def an154 : List An := [{ id := 0, pre := [.clr [1, 2]], ep := [], lin := [], sp := [] }]
theorem c154 : cC Try.prog Try.f154.ntmps an154 (Try.f154.body.getD .skip) = some A154 := by kernel_rfl
structure H154 (D : Den) (σ : Sig) (F : Nat) : Prop where
  c86 : ∀ (x0 : (Int × (List (Int × Int)))) r, s_l2All F x0 = some r → D 86 [Enc.enc x0] = some (Enc.enc (r : (List Int)))
  g86 : σ 86 = some (0, true)
abbrev R154 (r : ((List Int) × (List Int))) : (Nat → V) → Prop := RR Try.prog [.cell 2 94] 0 true (Enc.enc (r : ((List Int) × (List Int))))
section
variable {D : Den} {σ : Sig} {F : Nat} {r : ((List Int) × (List Int))}
def s_l6Begin (F : Nat) (x_1 : (Int × (List (Int × Int)))) : Option ((List Int) × (List Int)) :=
  (s_l2All F x_1).bind fun r_2 =>
  some ([], r_2)
theorem t154 (H : H154 D σ F) (x_1 : (Int × (List (Int × Int)))) (s : Nat → V) (hs : Facts [(0, (.agg [(ji x_1.1), (Enc.enc (x_1.2 : List (Int × Int)))]))] s) (h : s_l6Begin F x_1 = some r) : Run D σ (R154 r) (.run A154 []) s := by
  unfold s_l6Begin at h
  have h0 := hs
  refine .seq (run_reg ?_)
  refine e_clr ?_
  refine ez [(0, _), (1, _), (2, _)] ⟨(keep_clear (pk := [1, 2]) h0 rfl (map_agg (maps_cons mi (maps_cons me maps_nil)))), (gone_clear (pk := [1, 2]) (t := 1) rfl), (gone_clear (pk := [1, 2]) (t := 2) rfl)⟩ ?_
  rintro s ⟨h0, h1, h2⟩
  refine g_box (.agg [(ji x_1.1), (Enc.enc (x_1.2 : List (Int × Int)))]) (rd_of h0 rfl) h1 rfl ?_
  refine g_alloc h2 ?_
  refine gq (.nsq (.seq (rg (g1 1 (.agg [(ji x_1.1), (Enc.enc (x_1.2 : List (Int × Int)))]) (rfl : (_ : V) = (.ref (.bx 1) 0 [] (.agg [(ji x_1.1), (Enc.enc (x_1.2 : List (Int × Int)))]))) fun h3 => ?_))))
  obtain ⟨r_2, E_r_2, h⟩ := bind_some h
  refine g_call (m := 0) (al := true) (r := (Enc.enc (r_2 : (List Int)))) [Enc.enc (x_1 : (Int × (List (Int × Int))))] (ta_cons (v := (.agg [(ji x_1.1), (Enc.enc (x_1.2 : List (Int × Int)))])) h3 rfl (Enc.erase_enc (x_1 : (Int × (List (Int × Int))))) ta_nil) (H.c86 _ _ E_r_2) H.g86 (hal_of (ht_cons (v := (.agg [(ji x_1.1), (Enc.enc (x_1.2 : List (Int × Int)))])) h3 rfl rfl ht_nil)) rfl rfl rfl ?_
  refine g1 4 (.agg [(.sl .nl (Enc.shp Int) 0 []), (eL r_2)]) (rfl : (_ : V) = (eL r_2)) fun h5 => ?_
  refine g_store (.agg [(.sl .nl (Enc.shp Int) 0 []), (eL r_2)]) (rd_of rfl rfl) (rd_of h5 rfl) (by refine ⟨by decide, by decide, rfl, rfl, rfl, ?_⟩; first | rfl | simp [V.toks, V.tokss, Enc.toks_enc]) ?_
  refine gz [(2, (.ref (.bx 2) 0 [] (.agg [(.sl .nl (Enc.shp Int) 0 []), (eL r_2)])))] (keep_mut rfl rfl) ?_
  rintro s h2
  refine .nsq (.ret ?_)
  have hr := Option.some.inj h
  subst hr
  exact rrA (res_cell h2 (by kernel_rfl)) (fin_ret1 (fin_agg (fins_cons (fin_own (o := (.nil : NL Int)) (t := .nl)) (fins_cons (fin_enc (x := (r_2 : (List Int)))) fins_nil))))
end
def e154 (F : Nat) : Ent := ent 154 (fun (x : ((Int × (List (Int × Int))) × Unit)) => s_l6Begin F x.1) (fun (r : ((List Int) × (List Int))) => (Enc.enc (r : ((List Int) × (List Int))))) 0 true []
theorem p154 {F : Nat} {x0 : (Int × (List (Int × Int)))} {r : ((List Int) × (List Int))} (h : s_l6Begin F x0 = some r) : (e154 F).den [Enc.enc x0] = some (Enc.enc (r : ((List Int) × (List Int)))) := ent_put (x0, ()) h
theorem o154 {D : Den} {σ : Sig} {F : Nat} (hF : Fits2 Try.prog D σ) (H : H154 D σ F) : (e154 F).Ok Try.prog := by
  refine ok_of (f := 154) (show unk 154 = 154 from rfl) (fun args r h => ?_) ⟨Try.f154, Try.func154, rfl, rfl⟩
  obtain ⟨⟨x0, _⟩, y, rfl, hy, rfl⟩ := da_open h
  exact contract_run hF (by kernel_rfl) Try.func154 rfl c154 (show 1 ≤ Try.f154.ntmps by decide) (t154 H x0 _ rfl hy)
/- loop.example/g01109/spec.l2Node -/
def A181_1 : AC := (.seq (.reg [] [(jm 5 1), ((jv 6 (.fld (.t 2) 0 0))), ((jv 7 (.load .s (.t 6)))), ((jv 8 (.bin .sub (.t 7) (jn 1)))), (.mk (some 9) none false (.call (.k (.fn 103 [] [])) [(.t 5), (jn 0), (.t 8)])), (jm 4 9)] []) .ret)
def A181 : AC := (.seq (.reg [.clr [2]] [(.mk (some 2) none false (.box (.t 0))), ((jv 4 (.mov (.k (.bool false)))))] []) A181_1)
def an181 : List An := [{ id := 0, pre := [.clr [2]], ep := [], lin := [], sp := [] }]
theorem c181 : cC Try.prog Try.f181.ntmps an181 (Try.f181.body.getD .skip) = some A181 := by kernel_rfl
structure H181 (D : Den) (σ : Sig) (F : Nat) : Prop where
  c103 : ∀ (x0 : Int) (x1 : Int) (x2 : Int) r, s_l1In F x0 x1 x2 = some r → D 103 [Enc.enc x0, Enc.enc x1, Enc.enc x2] = some (Enc.enc (r : Bool))
  g103 : σ 103 = some (0, false)
abbrev R181 (r : Bool) : (Nat → V) → Prop := RR Try.prog [.tmp 4] 0 false (Enc.enc (r : Bool))
section
variable {D : Den} {σ : Sig} {F : Nat} {r : Bool}
def s_l2Node (F : Nat) (x_1 : (Int × (List (Int × Int)))) (x_2 : Int) : Option Bool :=
  (s_l1In F x_2 0 (w64 (x_1.1 - 1))).bind fun r_3 =>
  some r_3
theorem t181 (H : H181 D σ F) (x_1 : (Int × (List (Int × Int)))) (x_2 : Int) (s : Nat → V) (hs : Facts [(0, (.agg [(ji x_1.1), (Enc.enc (x_1.2 : List (Int × Int)))])), (1, (ji x_2))] s) (h : s_l2Node F x_1 x_2 = some r) : Run D σ (R181 r) (.run A181 []) s := by
  unfold s_l2Node at h
  obtain ⟨h0, h1⟩ := hs
  refine .seq (run_reg ?_)
  refine e_clr ?_
  refine ez [(0, _), (1, _), (2, _)] ⟨(keep_clear (pk := [2]) h0 rfl (map_agg (maps_cons mi (maps_cons me maps_nil)))), (keep_clear (pk := [2]) h1 rfl mi), (gone_clear (pk := [2]) (t := 2) rfl)⟩ ?_
  rintro s ⟨h0, h1, h2⟩
  refine g_box (.agg [(ji x_1.1), (Enc.enc (x_1.2 : List (Int × Int)))]) (rd_of h0 rfl) h2 rfl ?_
  refine g0 (jb false) fun h4 => ?_
  refine gq (.nsq (.seq (rg (gm h1 fun h5 => g1 2 (.ref (.bx 2) 0 [0] (ji x_1.1)) (rfl : (_ : V) = (.ref (.bx 2) 0 [] (.agg [(ji x_1.1), (Enc.enc (x_1.2 : List (Int × Int)))]))) fun h6 => ?_))))
  refine g1 6 (ji x_1.1) h6 fun h7 => ?_
  refine g1 7 (ji (w64 (x_1.1 - 1))) h7 fun h8 => ?_
  obtain ⟨r_3, E_r_3, h⟩ := bind_some h
  refine g_call (m := 0) (al := false) (r := (Enc.enc (r_3 : Bool))) [Enc.enc (x_2 : Int), Enc.enc (0 : Int), Enc.enc (w64 (x_1.1 - 1) : Int)] (ta_cons (v := (ji x_2)) h5 rfl rfl (ta_cons (v := (ji 0)) rfl rfl rfl (ta_cons (v := (ji (w64 (x_1.1 - 1)))) h8 rfl rfl ta_nil))) (H.c103 _ _ _ _ E_r_3) H.g103 rfl rfl rfl rfl ?_
  refine gm (rfl : (_ : V) = (jb r_3)) fun h4 => ?_
  refine gq (.nsq (.ret ?_))
  have hr := Option.some.inj h
  subst hr
  exact rrA (res_tmp h4) rfl
end
def e181 (F : Nat) : Ent := ent 181 (fun (x : ((Int × (List (Int × Int))) × Int × Unit)) => s_l2Node F x.1 x.2.1) (fun (r : Bool) => (Enc.enc (r : Bool))) 0 false []
theorem p181 {F : Nat} {x0 : (Int × (List (Int × Int)))} {x1 : Int} {r : Bool} (h : s_l2Node F x0 x1 = some r) : (e181 F).den [Enc.enc x0, Enc.enc x1] = some (Enc.enc (r : Bool)) := ent_put (x0, x1, ()) h
theorem o181 {D : Den} {σ : Sig} {F : Nat} (hF : Fits2 Try.prog D σ) (H : H181 D σ F) : (e181 F).Ok Try.prog := by
  refine ok_of (f := 181) (show unk 181 = 181 from rfl) (fun args r h => ?_) ⟨Try.f181, Try.func181, rfl, rfl⟩
  obtain ⟨⟨x0, x1, _⟩, y, rfl, hy, rfl⟩ := da_open h
  exact contract_run hF (by kernel_rfl) Try.func181 rfl c181 (show 2 ≤ Try.f181.ntmps by decide) (t181 H x0 x1 _ ⟨rfl, rfl⟩ hy)
/- loop.example/g01109/spec.l1Has -/
def A74_2 : AC := (.cond (.t 9) .skip (.exit 0))
def A74_4 : AC := (.cond (.t 17) (.seq (.reg [] [((jv 4 (.mov (.k (.bool true)))))] []) .ret) .skip)
def A74_5 : AC := (.reg [] [(jm 10 5), ((jv 11 (.bin .add (.t 10) (jn 1)))), (jm 5 11)] [])
def A74_3 : AC := (.seq (.block 1 (.seq (.reg [] [(jm 12 0), (jm 13 5), ((jv 14 (.idx (.t 12) (.t 13) 1))), ((jv 15 (.load .s (.t 14)))), (jm 16 1), ((jv 17 (.bin .eql (.t 15) (.t 16))))] []) A74_4)) A74_5)
def A74_1 : AC := (.seq (.seq (.reg [] [(jm 6 5), (jm 7 0), ((jv 8 (.len (.t 7)))), ((jv 9 (.bin .lss (.t 6) (.t 8))))] []) A74_2) A74_3)
def A74_6 : AC := (.seq (.reg [] [((jv 4 (.mov (.k (.bool false)))))] []) .ret)
def A74_8 : AC := (.block 0 (.loop A74_1))
def A74_7 : AC := (.seq (.seq (.reg [] [((jv 5 (.mov (jn 0))))] []) A74_8) A74_6)
def A74 : AC := (.seq (.reg [] [((jv 4 (.mov (.k (.bool false)))))] []) A74_7)
def an74 : List An := []
theorem c74 : cC Try.prog Try.f74.ntmps an74 (Try.f74.body.getD .skip) = some A74 := by kernel_rfl
structure H74 (D : Den) (σ : Sig) (F : Nat) : Prop where
  mk ::
abbrev R74 (r : Bool) : (Nat → V) → Prop := RR Try.prog [.tmp 4] 0 false (Enc.enc (r : Bool))
section
variable {D : Den} {σ : Sig} {F : Nat} {r : Bool}
def s_l1Has_l1 (F : Nat) (x_1 : (List Int)) (x_2 : Int)  : Nat → Int → Option Bool
  | 0, _ => none
  | k + 1, x_4 =>
    bif decide (x_4 < (x_1.length : Int)) then
      (idx x_1 x_4).bind fun e_6 =>
      bif (e_6 == x_2) then
        some true
      else
        (s_l1Has_l1 F x_1 x_2 k) (w64 (x_4 + 1))
    else
      some false
theorem t_f74_l1 (H : H74 D σ F) (x_1 : (List Int)) (x_2 : Int)  : ∀ (k : Nat) (x_4 : Int) (s : Nat → V), Facts [(0, (eL x_1)), (1, (ji x_2)), (4, (jb false)), (5, (ji x_4))] s → s_l1Has_l1 F x_1 x_2 k x_4 = some r → Run D σ (R74 r) (.run A74_1 [.lp A74_1, .bk 0, .sq A74_6]) s := by
  intro k
  induction k with
  | zero => intro x_4 s _ h; exact nomatch (h : (none : Option _) = some r)
  | succ k ih =>
    intro x_4 s hs h
    rw [s_l1Has_l1] at h
    obtain ⟨h0, h1, h4, h5⟩ := hs
    refine .seq (.seq (rg (gm h5 fun h6 => gm h0 fun h7 => gv (ji (x_1.length : Int)) (ev_len (xs := x_1) h7) fun h8 => ?_)))
    refine g2 6 8 (jb (decide (x_4 < (x_1.length : Int)))) h6 h8 fun h9 => ?_
    refine gq (.nsq (run_cond (t := decide (x_4 < (x_1.length : Int))) h9 h (fun h => ?_) (fun h => ?_)))
    · refine .skip (.nsq (.seq (.block (.seq (rg (gm h0 fun h12 => gm h5 fun h13 => ?_))))))
      obtain ⟨e_6, E_e_6, h⟩ := bind_some h
      refine gv (.ref .sh 0 [] (ji e_6)) (ev_idx (t := .sh) (lo := 0) (xs := x_1) h12 h13 E_e_6 rfl rfl) fun h14 => ?_
      refine g1 14 (ji e_6) h14 fun h15 => ?_
      refine gm h1 fun h16 => g2 15 16 (jb (e_6 == x_2)) h15 h16 fun h17 => ?_
      refine gq (.nsq (run_cond (t := (e_6 == x_2)) h17 h (fun h => ?_) (fun h => ?_)))
      · refine .seq (rg (g0 (jb true) fun h4 => ?_))
        refine gq (.nsq (.ret ?_))
        have hr := Option.some.inj h
        subst hr
        exact rrA (res_tmp h4) rfl
      refine .skip (.nbk (.nsq (rg (gm h5 fun h10 => g1 10 (ji (w64 (x_4 + 1))) h10 fun h11 => ?_))))
      refine gm h11 fun h5 => gq (.nlp ?_)
      exact ih (w64 (x_4 + 1)) _ ⟨h0, h1, h4, h5⟩ h
    refine .exit (.esq (.elp (.ebk (.nsq (.seq (rg (g0 (jb false) fun h4 => ?_)))))))
    refine gq (.nsq (.ret ?_))
    have hr := Option.some.inj h
    subst hr
    exact rrA (res_tmp h4) rfl
def s_l1Has (F : Nat) (x_1 : (List Int)) (x_2 : Int) : Option Bool :=
  s_l1Has_l1 F x_1 x_2 F 0
theorem t74 (H : H74 D σ F) (x_1 : (List Int)) (x_2 : Int) (s : Nat → V) (hs : Facts [(0, (eL x_1)), (1, (ji x_2))] s) (h : s_l1Has F x_1 x_2 = some r) : Run D σ (R74 r) (.run A74 []) s := by
  unfold s_l1Has at h
  obtain ⟨h0, h1⟩ := hs
  refine .seq (rg (g0 (jb false) fun h4 => ?_))
  refine gq (.nsq (.seq (.seq (rg (g0 (ji 0) fun h5 => gq (.nsq (.block (.loop ?_))))))))
  exact t_f74_l1 H x_1 x_2 F 0 _ ⟨h0, h1, h4, h5⟩ h
end
def e74 (F : Nat) : Ent := ent 74 (fun (x : ((List Int) × Int × Unit)) => s_l1Has F x.1 x.2.1) (fun (r : Bool) => (Enc.enc (r : Bool))) 0 false []
theorem p74 {F : Nat} {x0 : (List Int)} {x1 : Int} {r : Bool} (h : s_l1Has F x0 x1 = some r) : (e74 F).den [Enc.enc x0, Enc.enc x1] = some (Enc.enc (r : Bool)) := ent_put (x0, x1, ()) h
theorem o74 {D : Den} {σ : Sig} {F : Nat} (hF : Fits2 Try.prog D σ) (H : H74 D σ F) : (e74 F).Ok Try.prog := by
  refine ok_of (f := 74) (show unk 74 = 74 from rfl) (fun args r h => ?_) ⟨Try.f74, Try.func74, rfl, rfl⟩
  obtain ⟨⟨x0, x1, _⟩, y, rfl, hy, rfl⟩ := da_open h
  exact contract_run hF (by kernel_rfl) Try.func74 rfl c74 (show 2 ≤ Try.f74.ntmps by decide) (t74 H x0 x1 _ ⟨rfl, rfl⟩ hy)
/- loop.example/g01109/spec.l6Can -/
def A155_2 : AC := (.cond (.t 8) (.seq (.reg [] [((jv 9 (.load (.ag [.s, .p]) (.t 3)))), (jm 10 2), (.mk (some 11) none false (.call (.k (.fn 181 [] [])) [(.t 9), (.t 10)])), (jm 12 11), ((jg 13 12 true (.fld (.t 4) 0 0))), ((jg 14 12 true (.load .p (.t 13)))), ((jg 15 12 true (.mov (.t 2)))), (.mk (some 16) (some (12, true)) false (.call (.k (.fn 74 [] [])) [(.t 14), (.t 15)])), ((jg 17 12 true (.un .not (.t 16)))), ((jv 18 (.pick (.t 12) (.t 17) (.k (.bool false))))), (jm 6 18)] []) .ret) .skip)
def A155_3 : AC := (.seq (.reg [] [(jm 19 2), ((jv 20 (.fld (.t 3) 0 0))), ((jv 21 (.load .s (.t 20)))), ((jv 22 (.un .neg (.t 21)))), ((jv 23 (.bin .geq (.t 19) (.t 22)))), (jm 24 23), ((jg 25 24 true (.fld (.t 4) 0 0))), ((jg 26 24 true (.load .p (.t 25)))), ((jg 27 24 true (.mov (.t 2)))), ((jg 28 24 true (.bin .sub (jn (-1)) (.t 27)))), (.mk (some 29) (some (24, true)) false (.call (.k (.fn 74 [] [])) [(.t 26), (.t 28)])), ((jv 30 (.pick (.t 24) (.t 29) (.k (.bool false))))), (jm 6 30)] []) .ret)
def A155_1 : AC := (.seq (.seq (.reg [] [(jm 7 2), ((jv 8 (.bin .geq (.t 7) (jn 0))))] []) A155_2) A155_3)
def A155 : AC := (.seq (.reg [.clr [3, 4]] [(.mk (some 3) none false (.box (.t 0))), (.mk (some 4) none false (.box (.t 1))), ((jv 6 (.mov (.k (.bool false)))))] []) A155_1)
def an155 : List An := [{ id := 0, pre := [.clr [3, 4]], ep := [], lin := [], sp := [] }]
theorem c155 : cC Try.prog Try.f155.ntmps an155 (Try.f155.body.getD .skip) = some A155 := by kernel_rfl
structure H155 (D : Den) (σ : Sig) (F : Nat) : Prop where
  c181 : ∀ (x0 : (Int × (List (Int × Int)))) (x1 : Int) r, s_l2Node F x0 x1 = some r → D 181 [Enc.enc x0, Enc.enc x1] = some (Enc.enc (r : Bool))
  g181 : σ 181 = some (0, false)
  c74 : ∀ (x0 : (List Int)) (x1 : Int) r, s_l1Has F x0 x1 = some r → D 74 [Enc.enc x0, Enc.enc x1] = some (Enc.enc (r : Bool))
  g74 : σ 74 = some (0, false)
abbrev R155 (r : Bool) : (Nat → V) → Prop := RR Try.prog [.tmp 6] 0 false (Enc.enc (r : Bool))
section
variable {D : Den} {σ : Sig} {F : Nat} {r : Bool}
def s_l6Can (F : Nat) (x_1 : (Int × (List (Int × Int)))) (x_2 : ((List Int) × (List Int))) (x_3 : Int) : Option Bool :=
  bif decide (x_3 ≥ 0) then
    (s_l2Node F x_1 x_3).bind fun r_6 =>
    bif r_6 then
      (s_l1Has F x_2.1 x_3).bind fun r_7 =>
      some (!r_7)
    else
      some false
  else
    bif decide (x_3 ≥ (w64 (0 - x_1.1))) then
      (s_l1Has F x_2.1 (w64 ((-1) - x_3))).bind fun r_8 =>
      some r_8
    else
      some false
theorem t155 (H : H155 D σ F) (x_1 : (Int × (List (Int × Int)))) (x_2 : ((List Int) × (List Int))) (x_3 : Int) (s : Nat → V) (hs : Facts [(0, (.agg [(ji x_1.1), (Enc.enc (x_1.2 : List (Int × Int)))])), (1, (.agg [(eL x_2.1), (eL x_2.2)])), (2, (ji x_3))] s) (h : s_l6Can F x_1 x_2 x_3 = some r) : Run D σ (R155 r) (.run A155 []) s := by
  unfold s_l6Can at h
  obtain ⟨h0, h1, h2⟩ := hs
  refine .seq (run_reg ?_)
  refine e_clr ?_
  refine ez [(0, _), (1, _), (2, _), (3, _), (4, _)] ⟨(keep_clear (pk := [3, 4]) h0 rfl (map_agg (maps_cons mi (maps_cons me maps_nil)))), (keep_clear (pk := [3, 4]) h1 rfl (map_agg (maps_cons me (maps_cons me maps_nil)))), (keep_clear (pk := [3, 4]) h2 rfl mi), (gone_clear (pk := [3, 4]) (t := 3) rfl), (gone_clear (pk := [3, 4]) (t := 4) rfl)⟩ ?_
  rintro s ⟨h0, h1, h2, h3, h4⟩
  refine g_box (.agg [(ji x_1.1), (Enc.enc (x_1.2 : List (Int × Int)))]) (rd_of h0 rfl) h3 rfl ?_
  refine g_box (.agg [(eL x_2.1), (eL x_2.2)]) (rd_of h1 rfl) h4 rfl ?_
  refine g0 (jb false) fun h6 => ?_
  refine gq (.nsq (.seq (.seq (rg (gm h2 fun h7 => g1 7 (jb (decide (x_3 ≥ 0))) h7 fun h8 => ?_)))))
  refine gq (.nsq (run_cond (t := decide (x_3 ≥ 0)) h8 h (fun h => ?_) (fun h => ?_)))
  · refine .seq (rg (g1 3 (.agg [(ji x_1.1), (Enc.enc (x_1.2 : List (Int × Int)))]) (rfl : (_ : V) = (.ref (.bx 3) 0 [] (.agg [(ji x_1.1), (Enc.enc (x_1.2 : List (Int × Int)))]))) fun h9 => ?_))
    refine gm h2 fun h10 => ?_
    obtain ⟨r_6, E_r_6, h⟩ := bind_some h
    refine g_call (m := 0) (al := false) (r := (Enc.enc (r_6 : Bool))) [Enc.enc (x_1 : (Int × (List (Int × Int)))), Enc.enc (x_3 : Int)] (ta_cons (v := (.agg [(ji x_1.1), (Enc.enc (x_1.2 : List (Int × Int)))])) h9 rfl (Enc.erase_enc (x_1 : (Int × (List (Int × Int))))) (ta_cons (v := (ji x_3)) h10 rfl rfl ta_nil)) (H.c181 _ _ _ E_r_6) H.g181 rfl rfl rfl rfl ?_
    refine gm (rfl : (_ : V) = (jb r_6)) fun h12 => ?_
    refine split_on (c := r_6) h (fun hg4 h => ?_) (fun hg4 h => ?_)
    · refine g_yes (h12.trans (congrArg V.bool hg4)) (g1 4 (.ref (.bx 4) 0 [0] (eL x_2.1)) (rfl : (_ : V) = (.ref (.bx 4) 0 [] (.agg [(eL x_2.1), (eL x_2.2)]))) fun h13 => ?_)
      refine g_yes (h12.trans (congrArg V.bool hg4)) (g1 13 (eL x_2.1) h13 fun h14 => ?_)
      refine g_yes (h12.trans (congrArg V.bool hg4)) (gm h2 fun h15 => ?_)
      obtain ⟨r_7, E_r_7, h⟩ := bind_some h
      refine g_yes (h12.trans (congrArg V.bool hg4)) (g_call (m := 0) (al := false) (r := (Enc.enc (r_7 : Bool))) [Enc.enc (x_2.1 : (List Int)), Enc.enc (x_3 : Int)] (ta_cons (v := (eL x_2.1)) h14 rfl (Enc.erase_enc (x_2.1 : (List Int))) (ta_cons (v := (ji x_3)) h15 rfl rfl ta_nil)) (H.c74 _ _ _ E_r_7) H.g74 rfl rfl rfl rfl ?_)
      refine g_yes (h12.trans (congrArg V.bool hg4)) (g1 16 (jb (!r_7)) (rfl : (_ : V) = (jb r_7)) fun h17 => ?_)
      refine g2 12 17 (jb (!r_7)) (h12.trans (congrArg V.bool hg4)) h17 fun h18 => ?_
      refine gm h18 fun h6 => gq (.nsq (.ret ?_))
      have hr := Option.some.inj h
      subst hr
      exact rrA (res_tmp h6) rfl
    refine g_no (h12.trans (congrArg V.bool hg4)) ?_
    refine g_no (h12.trans (congrArg V.bool hg4)) ?_
    refine g_no (h12.trans (congrArg V.bool hg4)) ?_
    refine g_no (h12.trans (congrArg V.bool hg4)) ?_
    refine g_no (h12.trans (congrArg V.bool hg4)) ?_
    refine g2 12 17 (jb false) (h12.trans (congrArg V.bool hg4)) (rfl : (_ : V) = (.tup [])) fun h18 => ?_
    refine gm h18 fun h6 => gq (.nsq (.ret ?_))
    have hr := Option.some.inj h
    subst hr
    exact rrA (res_tmp h6) rfl
  refine .skip (.nsq (.seq (rg (gm h2 fun h19 => g1 3 (.ref (.bx 3) 0 [0] (ji x_1.1)) (rfl : (_ : V) = (.ref (.bx 3) 0 [] (.agg [(ji x_1.1), (Enc.enc (x_1.2 : List (Int × Int)))]))) fun h20 => ?_))))
  refine g1 20 (ji x_1.1) h20 fun h21 => ?_
  refine g1 21 (ji (w64 (0 - x_1.1))) h21 fun h22 => ?_
  refine g2 19 22 (jb (decide (x_3 ≥ (w64 (0 - x_1.1))))) h19 h22 fun h23 => ?_
  refine gm h23 fun h24 => split_on (c := decide (x_3 ≥ (w64 (0 - x_1.1)))) h (fun hg6 h => ?_) (fun hg6 h => ?_)
  · refine g_yes (h24.trans (congrArg V.bool hg6)) (g1 4 (.ref (.bx 4) 0 [0] (eL x_2.1)) (rfl : (_ : V) = (.ref (.bx 4) 0 [] (.agg [(eL x_2.1), (eL x_2.2)]))) fun h25 => ?_)
    refine g_yes (h24.trans (congrArg V.bool hg6)) (g1 25 (eL x_2.1) h25 fun h26 => ?_)
    refine g_yes (h24.trans (congrArg V.bool hg6)) (gm h2 fun h27 => ?_)
    refine g_yes (h24.trans (congrArg V.bool hg6)) (g1 27 (ji (w64 ((-1) - x_3))) h27 fun h28 => ?_)
    obtain ⟨r_8, E_r_8, h⟩ := bind_some h
    refine g_yes (h24.trans (congrArg V.bool hg6)) (g_call (m := 0) (al := false) (r := (Enc.enc (r_8 : Bool))) [Enc.enc (x_2.1 : (List Int)), Enc.enc (w64 ((-1) - x_3) : Int)] (ta_cons (v := (eL x_2.1)) h26 rfl (Enc.erase_enc (x_2.1 : (List Int))) (ta_cons (v := (ji (w64 ((-1) - x_3)))) h28 rfl rfl ta_nil)) (H.c74 _ _ _ E_r_8) H.g74 rfl rfl rfl rfl ?_)
    refine g2 24 29 (jb r_8) (h24.trans (congrArg V.bool hg6)) (rfl : (_ : V) = (jb r_8)) fun h30 => ?_
    refine gm h30 fun h6 => gq (.nsq (.ret ?_))
    have hr := Option.some.inj h
    subst hr
    exact rrA (res_tmp h6) rfl
  refine g_no (h24.trans (congrArg V.bool hg6)) ?_
  refine g_no (h24.trans (congrArg V.bool hg6)) ?_
  refine g_no (h24.trans (congrArg V.bool hg6)) ?_
  refine g_no (h24.trans (congrArg V.bool hg6)) ?_
  refine g_no (h24.trans (congrArg V.bool hg6)) ?_
  refine g2 24 29 (jb false) (h24.trans (congrArg V.bool hg6)) (rfl : (_ : V) = (.tup [])) fun h30 => ?_
  refine gm h30 fun h6 => gq (.nsq (.ret ?_))
  have hr := Option.some.inj h
  subst hr
  exact rrA (res_tmp h6) rfl
end
def e155 (F : Nat) : Ent := ent 155 (fun (x : ((Int × (List (Int × Int))) × ((List Int) × (List Int)) × Int × Unit)) => s_l6Can F x.1 x.2.1 x.2.2.1) (fun (r : Bool) => (Enc.enc (r : Bool))) 0 false []
theorem p155 {F : Nat} {x0 : (Int × (List (Int × Int)))} {x1 : ((List Int) × (List Int))} {x2 : Int} {r : Bool} (h : s_l6Can F x0 x1 x2 = some r) : (e155 F).den [Enc.enc x0, Enc.enc x1, Enc.enc x2] = some (Enc.enc (r : Bool)) := ent_put (x0, x1, x2, ()) h
theorem o155 {D : Den} {σ : Sig} {F : Nat} (hF : Fits2 Try.prog D σ) (H : H155 D σ F) : (e155 F).Ok Try.prog := by
  refine ok_of (f := 155) (show unk 155 = 155 from rfl) (fun args r h => ?_) ⟨Try.f155, Try.func155, rfl, rfl⟩
  obtain ⟨⟨x0, x1, x2, _⟩, y, rfl, hy, rfl⟩ := da_open h
  exact contract_run hF (by kernel_rfl) Try.func155 rfl c155 (show 3 ≤ Try.f155.ntmps by decide) (t155 H x0 x1 x2 _ ⟨rfl, rfl, rfl⟩ hy)
/- loop.example/g01109/spec.l2Without -/
def A109_2 : AC := (.cond (.t 11) .skip (.exit 0))
def A109_4 : AC := (.cond (.t 19) (.reg [.clr [25, 26]] [(jm 20 5), (jm 21 0), (jm 22 6), ((jv 23 (.idx (.t 21) (.t 22) 1))), ((jv 24 (.load .s (.t 23)))), (.mk (some 25) none false (.lit (.int .i64 (.ofNat 0)) 1 [(0, 0, (.t 24))])), (.mk (some 26) none false (.app .s (.t 20) (.t 25))), (jm 5 26)] [.home 26 5]) .skip)
def A109_5 : AC := (.reg [] [(jm 12 6), ((jv 13 (.bin .add (.t 12) (jn 1)))), (jm 6 13)] [])
def A109_3 : AC := (.seq (.block 1 (.seq (.reg [] [(jm 14 0), (jm 15 6), ((jv 16 (.idx (.t 14) (.t 15) 1))), ((jv 17 (.load .s (.t 16)))), (jm 18 1), ((jv 19 (.bin .neq (.t 17) (.t 18))))] []) A109_4)) A109_5)
def A109_1 : AC := (.seq (.seq (.reg [] [(jm 8 6), (jm 9 0), ((jv 10 (.len (.t 9)))), ((jv 11 (.bin .lss (.t 8) (.t 10))))] []) A109_2) A109_3)
def A109_6 : AC := (.seq (.reg [] [(jm 27 5), (jm 4 27)] [.home 5 4]) .ret)
def A109_9 : AC := (.block 0 (.loop A109_1))
def A109_8 : AC := (.seq (.seq (.reg [] [((jv 6 (.mov (jn 0))))] []) A109_9) A109_6)
def A109_7 : AC := (.seq (.reg [.clr [7]] [(.mk (some 7) none false (.lit (.int .i64 (.ofNat 0)) 0 [])), (jm 5 7)] [.home 7 5]) A109_8)
def A109 : AC := (.seq (.reg [] [((jv 4 (.mov (.k (.sl .nl .s 0 [])))))] []) A109_7)
def an109 : List An := [{ id := 1, pre := [.clr [7]], ep := [.home 7 5], lin := [], sp := [] }, { id := 6, pre := [.clr [25, 26]], ep := [.home 26 5], lin := [], sp := [] }, { id := 7, pre := [], ep := [.home 5 4], lin := [], sp := [] }]
theorem c109 : cC Try.prog Try.f109.ntmps an109 (Try.f109.body.getD .skip) = some A109 := by kernel_rfl
structure H109 (D : Den) (σ : Sig) (F : Nat) : Prop where
  mk ::
abbrev R109 (r : (List Int)) : (Nat → V) → Prop := RR Try.prog [.tmp 4] 0 false (Enc.enc (r : (List Int)))
section
variable {D : Den} {σ : Sig} {F : Nat} {r : (List Int)}
def s_l2Without_j1 (F : Nat) (x_1 : (List Int)) (x_2 : Int) (x_10 : Int) (c1 : (List Int) → Int → Option (List Int)) (x_20 : (List Int)) : Option (List Int) :=
  c1 x_20 (w64 (x_10 + 1))
theorem t_f109_j1 (H : H109 D σ F) (x_1 : (List Int)) (x_2 : Int) (x_10 : Int) (c1 : (List Int) → Int → Option (List Int)) (Hc1 : ∀ (x_9 : (List Int)) (x_10 : Int) (s : Nat → V), Facts [(0, (eL x_1)), (1, (ji x_2)), (4, (.sl .nl (Enc.shp Int) 0 [])), (5, (oI 5 [] (.of x_9))), (6, (ji x_10))] s → c1 x_9 x_10 = some r → Run D σ (R109 r) (.run A109_1 [.lp A109_1, .bk 0, .sq A109_6]) s) (x_20 : (List Int)) (s : Nat → V) (hs : Facts [(0, (eL x_1)), (1, (ji x_2)), (4, (.sl .nl (Enc.shp Int) 0 [])), (5, (oI 5 [] (.of x_20))), (6, (ji x_10))] s) (h : s_l2Without_j1 F x_1 x_2 x_10 c1 x_20 = some r) : Run D σ (R109 r) (.nrm [.bk 1, .sq A109_5, .lp A109_1, .bk 0, .sq A109_6]) s := by
  unfold s_l2Without_j1 at h
  obtain ⟨h0, h1, h4, h5, h6⟩ := hs
  refine .nbk (.nsq (rg (gm h6 fun h12 => g1 12 (ji (w64 (x_10 + 1))) h12 fun h13 => ?_)))
  refine gm h13 fun h6 => gq (.nlp ?_)
  exact Hc1 x_20 (w64 (x_10 + 1)) _ ⟨h0, h1, h4, h5, h6⟩ h
def s_l2Without_l1 (F : Nat) (x_1 : (List Int)) (x_2 : Int)  : Nat → (List Int) → Int → Option (List Int)
  | 0, _, _ => none
  | k + 1, x_9, x_10 =>
    bif decide (x_10 < (x_1.length : Int)) then
      (idx x_1 x_10).bind fun e_17 =>
      bif (e_17 != x_2) then
        (idx x_1 x_10).bind fun e_21 =>
        (appL x_9 [e_21]).bind fun ap_22 =>
        s_l2Without_j1 F x_1 x_2 x_10 (s_l2Without_l1 F x_1 x_2 k) ap_22
      else
        s_l2Without_j1 F x_1 x_2 x_10 (s_l2Without_l1 F x_1 x_2 k) x_9
    else
      some x_9
theorem t_f109_l1 (H : H109 D σ F) (x_1 : (List Int)) (x_2 : Int)  : ∀ (k : Nat) (x_9 : (List Int)) (x_10 : Int) (s : Nat → V), Facts [(0, (eL x_1)), (1, (ji x_2)), (4, (.sl .nl (Enc.shp Int) 0 [])), (5, (oI 5 [] (.of x_9))), (6, (ji x_10))] s → s_l2Without_l1 F x_1 x_2 k x_9 x_10 = some r → Run D σ (R109 r) (.run A109_1 [.lp A109_1, .bk 0, .sq A109_6]) s := by
  intro k
  induction k with
  | zero => intro x_9 x_10 s _ h; exact nomatch (h : (none : Option _) = some r)
  | succ k ih =>
    intro x_9 x_10 s hs h
    rw [s_l2Without_l1] at h
    obtain ⟨h0, h1, h4, h5, h6⟩ := hs
    refine .seq (.seq (rg (gm h6 fun h8 => gm h0 fun h9 => gv (ji (x_1.length : Int)) (ev_len (xs := x_1) h9) fun h10 => ?_)))
    refine g2 8 10 (jb (decide (x_10 < (x_1.length : Int)))) h8 h10 fun h11 => ?_
    refine gq (.nsq (run_cond (t := decide (x_10 < (x_1.length : Int))) h11 h (fun h => ?_) (fun h => ?_)))
    · refine .skip (.nsq (.seq (.block (.seq (rg (gm h0 fun h14 => gm h6 fun h15 => ?_))))))
      obtain ⟨e_17, E_e_17, h⟩ := bind_some h
      refine gv (.ref .sh 0 [] (ji e_17)) (ev_idx (t := .sh) (lo := 0) (xs := x_1) h14 h15 E_e_17 rfl rfl) fun h16 => ?_
      refine g1 16 (ji e_17) h16 fun h17 => ?_
      refine gm h1 fun h18 => g2 17 18 (jb (e_17 != x_2)) h17 h18 fun h19 => ?_
      refine gq (.nsq (run_cond (t := (e_17 != x_2)) h19 h (fun h => ?_) (fun h => ?_)))
      · refine run_reg ?_
        refine e_clr ?_
        refine ez [(0, _), (1, _), (4, _), (5, _), (6, _), (25, _), (26, _)] ⟨(keep_clear (pk := [25, 26]) h0 rfl me), (keep_clear (pk := [25, 26]) h1 rfl mi), (keep_clear (pk := [25, 26]) h4 rfl rfl), (keep_clear (pk := [25, 26]) h5 rfl (map_encO (r := 5) (p := []) rfl rfl)), (keep_clear (pk := [25, 26]) h6 rfl mi), (gone_clear (pk := [25, 26]) (t := 25) rfl), (gone_clear (pk := [25, 26]) (t := 26) rfl)⟩ ?_
        rintro s ⟨h0, h1, h4, h5, h6, h25, h26⟩
        refine gm h5 fun h20 => gm h0 fun h21 => gm h6 fun h22 => ?_
        obtain ⟨e_21, E_e_21, h⟩ := bind_some h
        refine gv (.ref .sh 0 [] (ji e_21)) (ev_idx (t := .sh) (lo := 0) (xs := x_1) h21 h22 E_e_21 rfl rfl) fun h23 => ?_
        refine g1 23 (ji e_21) h23 fun h24 => ?_
        refine g_litL [(24, (ji e_21))] [Enc.enc (e_21 : Int)] h24 rfl rfl h25 ?_
        obtain ⟨ap_22, E_ap_22, h⟩ := bind_some h
        refine g_app (q := 5) (p := []) (o := (.of (x_9 : List Int))) (ys := ([e_21] : List Int)) (t2 := (.at 25 [])) (lo2 := 0) h20 rfl rfl h26 (appN_L (o := (.of (x_9 : List Int))) E_ap_22 trivial) (fun s_19 ha_19 => ?_)
        refine gm (rfl : (_ : V) = (oI 26 [] (.of ap_22))) fun h5 => ?_
        refine g_end ?_
        refine e_home (r := 26) (x := 5) (v := _) h5 rfl (fun s_20 hg_20 => ?_)
        refine ez [(0, (eL x_1)), (1, (ji x_2)), (4, (.sl .nl (Enc.shp Int) 0 [])), (5, (oI 5 [] (.of ap_22))), (6, (ji x_10))] ⟨(hg_20 0 _ _ (show s_19 0 = (eL x_1) from keep_app ha_19 h0 me) me), (hg_20 1 _ _ (show s_19 1 = (ji x_2) from keep_app ha_19 h1 mi) mi), (hg_20 4 _ (.sl .nl (Enc.shp Int) 0 []) (show s_19 4 = (.sl .nl (Enc.shp Int) 0 []) from keep_app ha_19 h4 rfl) rfl), (hg_20 5 _ _ h5 (map_encO (r := 26) (p := []) rfl rfl)), (hg_20 6 _ _ (show s_19 6 = (ji x_10) from keep_app ha_19 h6 mi) mi)⟩ ?_
        rintro s ⟨h0, h1, h4, h5, h6⟩
        exact t_f109_j1 H x_1 x_2 x_10 (s_l2Without_l1 F x_1 x_2 k) ih ap_22 _ ⟨h0, h1, h4, h5, h6⟩ h
      refine .skip ?_
      exact t_f109_j1 H x_1 x_2 x_10 (s_l2Without_l1 F x_1 x_2 k) ih x_9 _ ⟨h0, h1, h4, h5, h6⟩ h
    refine .exit (.esq (.elp (.ebk (.nsq (.seq (rg (gm h5 fun h27 => gm h27 fun h4 => g_end ?_)))))))
    refine e_home (r := 5) (x := 4) (v := _) h4 rfl (fun s_21 hg_21 => ?_)
    refine ez [(4, (oI 4 [] (.of x_9)))] (hg_21 4 _ _ h4 (map_encO (r := 5) (p := []) rfl rfl)) ?_
    rintro s h4
    refine .nsq (.ret ?_)
    have hr := Option.some.inj h
    subst hr
    exact rrA (res_tmp h4) (fin_retF (fin_own (o := .of x_9)) (mine_own rfl))
def s_l2Without (F : Nat) (x_1 : (List Int)) (x_2 : Int) : Option (List Int) :=
  s_l2Without_l1 F x_1 x_2 F [] 0
theorem t109 (H : H109 D σ F) (x_1 : (List Int)) (x_2 : Int) (s : Nat → V) (hs : Facts [(0, (eL x_1)), (1, (ji x_2))] s) (h : s_l2Without F x_1 x_2 = some r) : Run D σ (R109 r) (.run A109 []) s := by
  unfold s_l2Without at h
  obtain ⟨h0, h1⟩ := hs
  refine .seq (rg (g0 (.sl .nl (Enc.shp Int) 0 []) fun h4 => ?_))
  refine gq (.nsq (.seq (run_reg ?_)))
  refine e_clr ?_
  refine ez [(0, _), (1, _), (4, _), (7, _)] ⟨(keep_clear (pk := [7]) h0 rfl me), (keep_clear (pk := [7]) h1 rfl mi), (keep_clear (pk := [7]) h4 rfl rfl), (gone_clear (pk := [7]) (t := 7) rfl)⟩ ?_
  rintro s ⟨h0, h1, h4, h7⟩
  refine g_litL [] [] trivial rfl rfl h7 ?_
  refine gm (rfl : (_ : V) = (oI 7 [] (.of []))) fun h5 => ?_
  refine g_end ?_
  refine e_home (r := 7) (x := 5) (v := _) h5 rfl (fun s_2 hg_2 => ?_)
  refine ez [(0, (eL x_1)), (1, (ji x_2)), (4, (.sl .nl (Enc.shp Int) 0 [])), (5, (oI 5 [] (.of [])))] ⟨(hg_2 0 _ _ h0 me), (hg_2 1 _ _ h1 mi), (hg_2 4 _ (.sl .nl (Enc.shp Int) 0 []) h4 rfl), (hg_2 5 _ _ h5 (map_encO (r := 7) (p := []) rfl rfl))⟩ ?_
  rintro s ⟨h0, h1, h4, h5⟩
  refine .nsq (.seq (.seq (rg (g0 (ji 0) fun h6 => gq (.nsq (.block (.loop ?_)))))))
  exact t_f109_l1 H x_1 x_2 F [] 0 _ ⟨h0, h1, h4, h5, h6⟩ h
end
def e109 (F : Nat) : Ent := ent 109 (fun (x : ((List Int) × Int × Unit)) => s_l2Without F x.1 x.2.1) (fun (r : (List Int)) => (Enc.enc (r : (List Int)))) 0 false []
theorem p109 {F : Nat} {x0 : (List Int)} {x1 : Int} {r : (List Int)} (h : s_l2Without F x0 x1 = some r) : (e109 F).den [Enc.enc x0, Enc.enc x1] = some (Enc.enc (r : (List Int))) := ent_put (x0, x1, ()) h
theorem o109 {D : Den} {σ : Sig} {F : Nat} (hF : Fits2 Try.prog D σ) (H : H109 D σ F) : (e109 F).Ok Try.prog := by
  refine ok_of (f := 109) (show unk 109 = 109 from rfl) (fun args r h => ?_) ⟨Try.f109, Try.func109, rfl, rfl⟩
  obtain ⟨⟨x0, x1, _⟩, y, rfl, hy, rfl⟩ := da_open h
  exact contract_run hF (by kernel_rfl) Try.func109 rfl c109 (show 2 ≤ Try.f109.ntmps by decide) (t109 H x0 x1 _ ⟨rfl, rfl⟩ hy)
/- loop.example/g01109/spec.l1Put -/
def A146_1 : AC := (.cond (.t 31) (.seq (.reg [] [(jm 32 0), (jm 4 32)] []) .ret) .skip)
def A146_2 : AC := (.seq (.reg [.clr [33, 37, 39, 40, 44]] [(.mk (some 33) none true (.lit (.int .i64 (.ofNat 0)) 0 [])), (jm 34 0), (jm 35 5), ((jv 36 (.slice (.t 34) none (some (.t 35)) 1))), (.mk (some 37) none true (.appS .s (.t 33) (.t 36))), (jm 38 1), (.mk (some 39) none false (.lit (.int .i64 (.ofNat 0)) 1 [(0, 0, (.t 38))])), (.mk (some 40) none true (.appS .s (.t 37) (.t 39))), (jm 41 0), (jm 42 5), ((jv 43 (.slice (.t 41) (some (.t 42)) none 1))), (.mk (some 44) none false (.appS .s (.t 40) (.t 43))), (jm 4 44)] [.home 44 4]) .ret)
def A146_4 : AC := (.cond (.t 17) .skip (.exit 0))
def A146_5 : AC := (.block 1 (.reg [] [(jm 18 5), ((jv 19 (.bin .add (.t 18) (jn 1)))), (jm 5 19)] []))
def A146_3 : AC := (.seq (.seq (.reg [] [(jm 6 5), (jm 7 0), ((jv 8 (.len (.t 7)))), ((jv 9 (.bin .lss (.t 6) (.t 8)))), (jm 10 9), ((jg 11 10 true (.mov (.t 0)))), ((jg 12 10 true (.mov (.t 5)))), ((jg 13 10 true (.idx (.t 11) (.t 12) 1))), ((jg 14 10 true (.load .s (.t 13)))), ((jg 15 10 true (.mov (.t 1)))), ((jg 16 10 true (.bin .lss (.t 14) (.t 15)))), ((jv 17 (.pick (.t 10) (.t 16) (.k (.bool false)))))] []) A146_4) A146_5)
def A146_6 : AC := (.seq (.seq (.reg [] [(jm 20 5), (jm 21 0), ((jv 22 (.len (.t 21)))), ((jv 23 (.bin .lss (.t 20) (.t 22)))), (jm 24 23), ((jg 25 24 true (.mov (.t 0)))), ((jg 26 24 true (.mov (.t 5)))), ((jg 27 24 true (.idx (.t 25) (.t 26) 1))), ((jg 28 24 true (.load .s (.t 27)))), ((jg 29 24 true (.mov (.t 1)))), ((jg 30 24 true (.bin .eql (.t 28) (.t 29)))), ((jv 31 (.pick (.t 24) (.t 30) (.k (.bool false)))))] []) A146_1) A146_2)
def A146_8 : AC := (.seq (.block 0 (.loop A146_3)) A146_6)
def A146_7 : AC := (.seq (.reg [] [((jv 5 (.mov (jn 0))))] []) A146_8)
def A146 : AC := (.seq (.reg [] [((jv 4 (.mov (.k (.sl .nl .s 0 [])))))] []) A146_7)
def an146 : List An := [{ id := 6, pre := [.clr [33, 37, 39, 40, 44]], ep := [.home 44 4], lin := [0, 4, 7], sp := [4, 7, 11] }]
theorem c146 : cC Try.prog Try.f146.ntmps an146 (Try.f146.body.getD .skip) = some A146 := by kernel_rfl
structure H146 (D : Den) (σ : Sig) (F : Nat) : Prop where
  mk ::
abbrev R146 (r : (List Int)) : (Nat → V) → Prop := RR Try.prog [.tmp 4] 0 true (Enc.enc (r : (List Int)))
section
variable {D : Den} {σ : Sig} {F : Nat} {r : (List Int)}
def s_l1Put_j1 (F : Nat) (x_1 : (List Int)) (x_2 : Int) (x_6 : Int)  (x_13 : Bool) : Option (List Int) :=
  bif x_13 then
    some x_1
  else
    (sub x_1 0 x_6).bind fun sub_14 =>
    (appL [] sub_14).bind fun ap_15 =>
    (appL ap_15 [x_2]).bind fun ap_16 =>
    (sub x_1 x_6 (x_1.length : Int)).bind fun sub_17 =>
    (appL ap_16 sub_17).bind fun ap_18 =>
    some ap_18
theorem t_f146_j1 (H : H146 D σ F) (x_1 : (List Int)) (x_2 : Int) (x_6 : Int)  (x_13 : Bool) (s : Nat → V) (hs : Facts [(0, (eL x_1)), (1, (ji x_2)), (4, (.sl .nl (Enc.shp Int) 0 [])), (5, (ji x_6)), (31, (jb x_13))] s) (h : s_l1Put_j1 F x_1 x_2 x_6  x_13 = some r) : Run D σ (R146 r) (.nrm [.sq A146_1, .sq A146_2]) s := by
  unfold s_l1Put_j1 at h
  obtain ⟨h0, h1, h4, h5, h31⟩ := hs
  refine .nsq (run_cond (t := x_13) h31 h (fun h => ?_) (fun h => ?_))
  · refine .seq (rg (gm h0 fun h32 => gm h32 fun h4 => gq (.nsq (.ret ?_))))
    have hr := Option.some.inj h
    subst hr
    exact rrA (res_tmp h4) (fin_ret1 (fin_enc (x := (x_1 : (List Int)))))
  refine .skip (.nsq (.seq (run_reg ?_)))
  refine e_clr ?_
  refine ez [(0, _), (1, _), (4, _), (5, _), (33, _), (37, _), (39, _), (40, _), (44, _)] ⟨(keep_clear (pk := [33, 37, 39, 40, 44]) h0 rfl me), (keep_clear (pk := [33, 37, 39, 40, 44]) h1 rfl mi), (keep_clear (pk := [33, 37, 39, 40, 44]) h4 rfl rfl), (keep_clear (pk := [33, 37, 39, 40, 44]) h5 rfl mi), (gone_clear (pk := [33, 37, 39, 40, 44]) (t := 33) rfl), (gone_clear (pk := [33, 37, 39, 40, 44]) (t := 37) rfl), (gone_clear (pk := [33, 37, 39, 40, 44]) (t := 39) rfl), (gone_clear (pk := [33, 37, 39, 40, 44]) (t := 40) rfl), (gone_clear (pk := [33, 37, 39, 40, 44]) (t := 44) rfl)⟩ ?_
  rintro s ⟨h0, h1, h4, h5, h33, h37, h39, h40, h44⟩
  refine g_litLl [] [] trivial rfl rfl h33 ?_
  refine gm h0 fun h34 => gm h5 fun h35 => ?_
  obtain ⟨sub_14, E_sub_14, h⟩ := bind_some h
  refine gv (eL sub_14) (ev_slice (xs := x_1) h34 (optI_none) (optI_some h35) E_sub_14 rfl) fun h36 => ?_
  obtain ⟨ap_15, E_ap_15, h⟩ := bind_some h
  refine g_appS (p := []) (xs := []) (ys := (sub_14 : List Int)) (t2 := .sh) (lo2 := 0) rfl h36 rfl h37 rfl E_ap_15 ?_
  refine gm h1 fun h38 => g_litL [(38, (ji x_2))] [Enc.enc (x_2 : Int)] h38 rfl rfl h39 ?_
  obtain ⟨ap_16, E_ap_16, h⟩ := bind_some h
  refine g_appS (p := []) (xs := ap_15) (ys := ([x_2] : List Int)) (t2 := (.at 39 [])) (lo2 := 0) rfl rfl rfl h40 rfl E_ap_16 ?_
  refine gm h0 fun h41 => gm h5 fun h42 => ?_
  obtain ⟨sub_17, E_sub_17, h⟩ := bind_some h
  refine gv (eL sub_17) (ev_slice (xs := x_1) h41 (optI_some h42) (optI_none) E_sub_17 rfl) fun h43 => ?_
  obtain ⟨ap_18, E_ap_18, h⟩ := bind_some h
  refine g_appS (p := []) (xs := ap_16) (ys := (sub_17 : List Int)) (t2 := .sh) (lo2 := 0) rfl h43 rfl h44 rfl E_ap_18 ?_
  refine gm (rfl : (_ : V) = (oI 44 [] (.of ap_18))) fun h4 => ?_
  refine g_end ?_
  refine e_home (r := 44) (x := 4) (v := _) h4 rfl (fun s_2 hg_2 => ?_)
  refine ez [(4, (oI 4 [] (.of ap_18)))] (hg_2 4 _ _ h4 (map_encO (r := 44) (p := []) rfl rfl)) ?_
  rintro s h4
  refine .nsq (.ret ?_)
  have hr := Option.some.inj h
  subst hr
  exact rrA (res_tmp h4) (fin_ret1 (fin_own (o := .of ap_18)))
def s_l1Put_j2 (F : Nat) (x_1 : (List Int)) (x_2 : Int) (x_6 : Int) (c1 : Int → Option (List Int)) (x_11 : Bool) : Option (List Int) :=
  bif x_11 then
    c1 (w64 (x_6 + 1))
  else
    bif decide (x_6 < (x_1.length : Int)) then
      (idx x_1 x_6).bind fun e_19 =>
      s_l1Put_j1 F x_1 x_2 x_6 (e_19 == x_2)
    else
      s_l1Put_j1 F x_1 x_2 x_6 false
theorem t_f146_j2 (H : H146 D σ F) (x_1 : (List Int)) (x_2 : Int) (x_6 : Int) (c1 : Int → Option (List Int)) (Hc1 : ∀ (x_6 : Int) (s : Nat → V), Facts [(0, (eL x_1)), (1, (ji x_2)), (4, (.sl .nl (Enc.shp Int) 0 [])), (5, (ji x_6))] s → c1 x_6 = some r → Run D σ (R146 r) (.run A146_3 [.lp A146_3, .bk 0, .sq A146_6]) s) (x_11 : Bool) (s : Nat → V) (hs : Facts [(0, (eL x_1)), (1, (ji x_2)), (4, (.sl .nl (Enc.shp Int) 0 [])), (5, (ji x_6)), (17, (jb x_11))] s) (h : s_l1Put_j2 F x_1 x_2 x_6 c1 x_11 = some r) : Run D σ (R146 r) (.nrm [.sq A146_4, .sq A146_5, .lp A146_3, .bk 0, .sq A146_6]) s := by
  unfold s_l1Put_j2 at h
  obtain ⟨h0, h1, h4, h5, h17⟩ := hs
  refine .nsq (run_cond (t := x_11) h17 h (fun h => ?_) (fun h => ?_))
  · refine .skip (.nsq (.block (rg (gm h5 fun h18 => g1 18 (ji (w64 (x_6 + 1))) h18 fun h19 => ?_))))
    refine gm h19 fun h5 => gq (.nbk (.nlp ?_))
    exact Hc1 (w64 (x_6 + 1)) _ ⟨h0, h1, h4, h5⟩ h
  refine .exit (.esq (.elp (.ebk (.nsq (.seq (.seq (rg (gm h5 fun h20 => gm h0 fun h21 => gv (ji (x_1.length : Int)) (ev_len (xs := x_1) h21) fun h22 => ?_))))))))
  refine g2 20 22 (jb (decide (x_6 < (x_1.length : Int)))) h20 h22 fun h23 => ?_
  refine gm h23 fun h24 => split_on (c := decide (x_6 < (x_1.length : Int))) h (fun hg5 h => ?_) (fun hg5 h => ?_)
  · refine g_yes (h24.trans (congrArg V.bool hg5)) (gm h0 fun h25 => ?_)
    refine g_yes (h24.trans (congrArg V.bool hg5)) (gm h5 fun h26 => ?_)
    obtain ⟨e_19, E_e_19, h⟩ := bind_some h
    refine g_yes (h24.trans (congrArg V.bool hg5)) (gv (.ref .sh 0 [] (ji e_19)) (ev_idx (t := .sh) (lo := 0) (xs := x_1) h25 h26 E_e_19 rfl rfl) fun h27 => ?_)
    refine g_yes (h24.trans (congrArg V.bool hg5)) (g1 27 (ji e_19) h27 fun h28 => ?_)
    refine g_yes (h24.trans (congrArg V.bool hg5)) (gm h1 fun h29 => ?_)
    refine g_yes (h24.trans (congrArg V.bool hg5)) (g2 28 29 (jb (e_19 == x_2)) h28 h29 fun h30 => ?_)
    refine g2 24 30 (jb (e_19 == x_2)) (h24.trans (congrArg V.bool hg5)) h30 fun h31 => ?_
    refine gq ?_
    exact t_f146_j1 H x_1 x_2 x_6 (e_19 == x_2) _ ⟨h0, h1, h4, h5, h31⟩ h
  refine g_no (h24.trans (congrArg V.bool hg5)) ?_
  refine g_no (h24.trans (congrArg V.bool hg5)) ?_
  refine g_no (h24.trans (congrArg V.bool hg5)) ?_
  refine g_no (h24.trans (congrArg V.bool hg5)) ?_
  refine g_no (h24.trans (congrArg V.bool hg5)) ?_
  refine g_no (h24.trans (congrArg V.bool hg5)) ?_
  refine g2 24 30 (jb false) (h24.trans (congrArg V.bool hg5)) (rfl : (_ : V) = (.tup [])) fun h31 => ?_
  refine gq ?_
  exact t_f146_j1 H x_1 x_2 x_6 false _ ⟨h0, h1, h4, h5, h31⟩ h
def s_l1Put_l1 (F : Nat) (x_1 : (List Int)) (x_2 : Int)  : Nat → Int → Option (List Int)
  | 0, _ => none
  | k + 1, x_6 =>
    bif decide (x_6 < (x_1.length : Int)) then
      (idx x_1 x_6).bind fun e_20 =>
      s_l1Put_j2 F x_1 x_2 x_6 (s_l1Put_l1 F x_1 x_2 k) (decide (e_20 < x_2))
    else
      s_l1Put_j2 F x_1 x_2 x_6 (s_l1Put_l1 F x_1 x_2 k) false
theorem t_f146_l1 (H : H146 D σ F) (x_1 : (List Int)) (x_2 : Int)  : ∀ (k : Nat) (x_6 : Int) (s : Nat → V), Facts [(0, (eL x_1)), (1, (ji x_2)), (4, (.sl .nl (Enc.shp Int) 0 [])), (5, (ji x_6))] s → s_l1Put_l1 F x_1 x_2 k x_6 = some r → Run D σ (R146 r) (.run A146_3 [.lp A146_3, .bk 0, .sq A146_6]) s := by
  intro k
  induction k with
  | zero => intro x_6 s _ h; exact nomatch (h : (none : Option _) = some r)
  | succ k ih =>
    intro x_6 s hs h
    rw [s_l1Put_l1] at h
    obtain ⟨h0, h1, h4, h5⟩ := hs
    refine .seq (.seq (rg (gm h5 fun h6 => gm h0 fun h7 => gv (ji (x_1.length : Int)) (ev_len (xs := x_1) h7) fun h8 => ?_)))
    refine g2 6 8 (jb (decide (x_6 < (x_1.length : Int)))) h6 h8 fun h9 => ?_
    refine gm h9 fun h10 => split_on (c := decide (x_6 < (x_1.length : Int))) h (fun hg5 h => ?_) (fun hg5 h => ?_)
    · refine g_yes (h10.trans (congrArg V.bool hg5)) (gm h0 fun h11 => ?_)
      refine g_yes (h10.trans (congrArg V.bool hg5)) (gm h5 fun h12 => ?_)
      obtain ⟨e_20, E_e_20, h⟩ := bind_some h
      refine g_yes (h10.trans (congrArg V.bool hg5)) (gv (.ref .sh 0 [] (ji e_20)) (ev_idx (t := .sh) (lo := 0) (xs := x_1) h11 h12 E_e_20 rfl rfl) fun h13 => ?_)
      refine g_yes (h10.trans (congrArg V.bool hg5)) (g1 13 (ji e_20) h13 fun h14 => ?_)
      refine g_yes (h10.trans (congrArg V.bool hg5)) (gm h1 fun h15 => ?_)
      refine g_yes (h10.trans (congrArg V.bool hg5)) (g2 14 15 (jb (decide (e_20 < x_2))) h14 h15 fun h16 => ?_)
      refine g2 10 16 (jb (decide (e_20 < x_2))) (h10.trans (congrArg V.bool hg5)) h16 fun h17 => ?_
      refine gq ?_
      exact t_f146_j2 H x_1 x_2 x_6 (s_l1Put_l1 F x_1 x_2 k) ih (decide (e_20 < x_2)) _ ⟨h0, h1, h4, h5, h17⟩ h
    refine g_no (h10.trans (congrArg V.bool hg5)) ?_
    refine g_no (h10.trans (congrArg V.bool hg5)) ?_
    refine g_no (h10.trans (congrArg V.bool hg5)) ?_
    refine g_no (h10.trans (congrArg V.bool hg5)) ?_
    refine g_no (h10.trans (congrArg V.bool hg5)) ?_
    refine g_no (h10.trans (congrArg V.bool hg5)) ?_
    refine g2 10 16 (jb false) (h10.trans (congrArg V.bool hg5)) (rfl : (_ : V) = (.tup [])) fun h17 => ?_
    refine gq ?_
    exact t_f146_j2 H x_1 x_2 x_6 (s_l1Put_l1 F x_1 x_2 k) ih false _ ⟨h0, h1, h4, h5, h17⟩ h
def s_l1Put (F : Nat) (x_1 : (List Int)) (x_2 : Int) : Option (List Int) :=
  s_l1Put_l1 F x_1 x_2 F 0
theorem t146 (H : H146 D σ F) (x_1 : (List Int)) (x_2 : Int) (s : Nat → V) (hs : Facts [(0, (eL x_1)), (1, (ji x_2))] s) (h : s_l1Put F x_1 x_2 = some r) : Run D σ (R146 r) (.run A146 []) s := by
  unfold s_l1Put at h
  obtain ⟨h0, h1⟩ := hs
  refine .seq (rg (g0 (.sl .nl (Enc.shp Int) 0 []) fun h4 => ?_))
  refine gq (.nsq (.seq (rg (g0 (ji 0) fun h5 => gq (.nsq (.seq (.block (.loop ?_))))))))
  exact t_f146_l1 H x_1 x_2 F 0 _ ⟨h0, h1, h4, h5⟩ h
end
def e146 (F : Nat) : Ent := ent 146 (fun (x : ((List Int) × Int × Unit)) => s_l1Put F x.1 x.2.1) (fun (r : (List Int)) => (Enc.enc (r : (List Int)))) 0 true []
theorem p146 {F : Nat} {x0 : (List Int)} {x1 : Int} {r : (List Int)} (h : s_l1Put F x0 x1 = some r) : (e146 F).den [Enc.enc x0, Enc.enc x1] = some (Enc.enc (r : (List Int))) := ent_put (x0, x1, ()) h
theorem o146 {D : Den} {σ : Sig} {F : Nat} (hF : Fits2 Try.prog D σ) (H : H146 D σ F) : (e146 F).Ok Try.prog := by
  refine ok_of (f := 146) (show unk 146 = 146 from rfl) (fun args r h => ?_) ⟨Try.f146, Try.func146, rfl, rfl⟩
  obtain ⟨⟨x0, x1, _⟩, y, rfl, hy, rfl⟩ := da_open h
  exact contract_run hF (by kernel_rfl) Try.func146 rfl c146 (show 2 ≤ Try.f146.ntmps by decide) (t146 H x0 x1 _ ⟨rfl, rfl⟩ hy)
/- loop.example/g01109/spec.l2Near -/
def A145_2 : AC := (.cond (.t 13) .skip (.exit 0))
def A145_5 : AC := (.cond (.t 42) (.seq (.reg [] [((jv 6 (.mov (.k (.bool true)))))] []) .ret) .skip)
def A145_4 : AC := (.seq (.reg [] [((jv 21 (.idxA (.t 8) (jn 0) 2 1))), ((jv 22 (.load .s (.t 21)))), (jm 23 1), ((jv 24 (.bin .eql (.t 22) (.t 23)))), (jm 25 24), ((jg 26 25 true (.idxA (.t 8) (jn 1) 2 1))), ((jg 27 25 true (.load .s (.t 26)))), ((jg 28 25 true (.mov (.t 2)))), ((jg 29 25 true (.bin .eql (.t 27) (.t 28)))), ((jv 30 (.pick (.t 25) (.t 29) (.k (.bool false))))), (jm 31 30), ((jg 32 31 false (.idxA (.t 8) (jn 0) 2 1))), ((jg 33 31 false (.load .s (.t 32)))), ((jg 34 31 false (.mov (.t 2)))), ((jg 35 31 false (.bin .eql (.t 33) (.t 34)))), ((jg 36 31 false (.mov (.t 35)))), ((jg 37 36 true (.idxA (.t 8) (jn 1) 2 1))), ((jg 38 36 true (.load .s (.t 37)))), ((jg 39 36 true (.mov (.t 1)))), ((jg 40 36 true (.bin .eql (.t 38) (.t 39)))), ((jg 41 31 false (.pick (.t 36) (.t 40) (.k (.bool false))))), ((jv 42 (.pick (.t 31) (.k (.bool true)) (.t 41))))] []) A145_5)
def A145_6 : AC := (.reg [] [(jm 14 7), ((jv 15 (.bin .add (.t 14) (jn 1)))), (jm 7 15)] [])
def A145_3 : AC := (.seq (.block 1 (.seq (.reg [.clr [8]] [((jv 16 (.fld (.t 3) 1 1))), ((jv 17 (.load .p (.t 16)))), (jm 18 7), ((jv 19 (.idx (.t 17) (.t 18) 2))), ((jv 20 (.load (.ag [.s, .s]) (.t 19)))), (.mk (some 8) none false (.alloc (.agg [(.int .i64 (.ofNat 0)), (.int .i64 (.ofNat 0))]))), (.mk none none false (.store (.ag [.s, .s]) (.t 8) (.t 20)))] []) A145_4)) A145_6)
def A145_1 : AC := (.seq (.seq (.reg [] [(jm 9 7), ((jv 10 (.fld (.t 3) 1 1))), ((jv 11 (.load .p (.t 10)))), ((jv 12 (.len (.t 11)))), ((jv 13 (.bin .lss (.t 9) (.t 12))))] []) A145_2) A145_3)
def A145_7 : AC := (.seq (.reg [] [((jv 6 (.mov (.k (.bool false)))))] []) .ret)
def A145_9 : AC := (.block 0 (.loop A145_1))
def A145_8 : AC := (.seq (.seq (.reg [] [((jv 7 (.mov (jn 0))))] []) A145_9) A145_7)
def A145 : AC := (.seq (.reg [.clr [3]] [(.mk (some 3) none false (.box (.t 0))), ((jv 6 (.mov (.k (.bool false)))))] []) A145_8)
def an145 : List An := [{ id := 0, pre := [.clr [3]], ep := [], lin := [], sp := [] }, { id := 4, pre := [.clr [8]], ep := [], lin := [], sp := [] }]
theorem c145 : cC Try.prog Try.f145.ntmps an145 (Try.f145.body.getD .skip) = some A145 := by kernel_rfl
structure H145 (D : Den) (σ : Sig) (F : Nat) : Prop where
  mk ::
abbrev R145 (r : Bool) : (Nat → V) → Prop := RR Try.prog [.tmp 6] 0 false (Enc.enc (r : Bool))
section
variable {D : Den} {σ : Sig} {F : Nat} {r : Bool}
def s_l2Near_j1 (F : Nat) (x_2 : Int) (x_3 : Int) (x_1 : (Int × (List (Int × Int)))) (x_6 : Int) (c1 : Int → Option Bool) (x_10 : Bool) : Option Bool :=
  bif x_10 then
    some true
  else
    c1 (w64 (x_6 + 1))
theorem t_f145_j1 (H : H145 D σ F) (x_2 : Int) (x_3 : Int) (x_1 : (Int × (List (Int × Int)))) (x_6 : Int) (c1 : Int → Option Bool) (Hc1 : ∀ (x_6 : Int) (s : Nat → V), Facts [(1, (ji x_2)), (2, (ji x_3)), (3, (.ref (.bx 3) 0 [] (.agg [(ji x_1.1), (Enc.enc (x_1.2 : List (Int × Int)))]))), (6, (jb false)), (7, (ji x_6))] s → c1 x_6 = some r → Run D σ (R145 r) (.run A145_1 [.lp A145_1, .bk 0, .sq A145_7]) s) (x_10 : Bool) (s : Nat → V) (hs : Facts [(1, (ji x_2)), (2, (ji x_3)), (3, (.ref (.bx 3) 0 [] (.agg [(ji x_1.1), (Enc.enc (x_1.2 : List (Int × Int)))]))), (6, (jb false)), (7, (ji x_6)), (42, (jb x_10))] s) (h : s_l2Near_j1 F x_2 x_3 x_1 x_6 c1 x_10 = some r) : Run D σ (R145 r) (.nrm [.sq A145_5, .bk 1, .sq A145_6, .lp A145_1, .bk 0, .sq A145_7]) s := by
  unfold s_l2Near_j1 at h
  obtain ⟨h1, h2, h3, h6, h7, h42⟩ := hs
  refine .nsq (run_cond (t := x_10) h42 h (fun h => ?_) (fun h => ?_))
  · refine .seq (rg (g0 (jb true) fun h6 => ?_))
    refine gq (.nsq (.ret ?_))
    have hr := Option.some.inj h
    subst hr
    exact rrA (res_tmp h6) rfl
  refine .skip (.nbk (.nsq (rg (gm h7 fun h14 => g1 14 (ji (w64 (x_6 + 1))) h14 fun h15 => ?_))))
  refine gm h15 fun h7 => gq (.nlp ?_)
  exact Hc1 (w64 (x_6 + 1)) _ ⟨h1, h2, h3, h6, h7⟩ h
def s_l2Near_l1 (F : Nat) (x_2 : Int) (x_3 : Int) (x_1 : (Int × (List (Int × Int))))  : Nat → Int → Option Bool
  | 0, _ => none
  | k + 1, x_6 =>
    bif decide (x_6 < (x_1.2.length : Int)) then
      (idx x_1.2 x_6).bind fun e_9 =>
      bif (e_9.1 == x_2) then
        bif (e_9.2 == x_3) then
          s_l2Near_j1 F x_2 x_3 x_1 x_6 (s_l2Near_l1 F x_2 x_3 x_1 k) true
        else
          bif (e_9.1 == x_3) then
            s_l2Near_j1 F x_2 x_3 x_1 x_6 (s_l2Near_l1 F x_2 x_3 x_1 k) (e_9.2 == x_2)
          else
            s_l2Near_j1 F x_2 x_3 x_1 x_6 (s_l2Near_l1 F x_2 x_3 x_1 k) false
      else
        bif (e_9.1 == x_3) then
          s_l2Near_j1 F x_2 x_3 x_1 x_6 (s_l2Near_l1 F x_2 x_3 x_1 k) (e_9.2 == x_2)
        else
          s_l2Near_j1 F x_2 x_3 x_1 x_6 (s_l2Near_l1 F x_2 x_3 x_1 k) false
    else
      some false
theorem t_f145_l1 (H : H145 D σ F) (x_2 : Int) (x_3 : Int) (x_1 : (Int × (List (Int × Int))))  : ∀ (k : Nat) (x_6 : Int) (s : Nat → V), Facts [(1, (ji x_2)), (2, (ji x_3)), (3, (.ref (.bx 3) 0 [] (.agg [(ji x_1.1), (Enc.enc (x_1.2 : List (Int × Int)))]))), (6, (jb false)), (7, (ji x_6))] s → s_l2Near_l1 F x_2 x_3 x_1 k x_6 = some r → Run D σ (R145 r) (.run A145_1 [.lp A145_1, .bk 0, .sq A145_7]) s := by
  intro k
  induction k with
  | zero => intro x_6 s _ h; exact nomatch (h : (none : Option _) = some r)
  | succ k ih =>
    intro x_6 s hs h
    rw [s_l2Near_l1] at h
    obtain ⟨h1, h2, h3, h6, h7⟩ := hs
    refine .seq (.seq (rg (gm h7 fun h9 => g1 3 (.ref (.bx 3) 0 [1] (Enc.enc (x_1.2 : List (Int × Int)))) h3 fun h10 => ?_)))
    refine g1 10 (Enc.enc (x_1.2 : List (Int × Int))) h10 fun h11 => ?_
    refine gv (ji (x_1.2.length : Int)) (ev_len (xs := x_1.2) h11) fun h12 => ?_
    refine g2 9 12 (jb (decide (x_6 < (x_1.2.length : Int)))) h9 h12 fun h13 => ?_
    refine gq (.nsq (run_cond (t := decide (x_6 < (x_1.2.length : Int))) h13 h (fun h => ?_) (fun h => ?_)))
    · refine .skip (.nsq (.seq (.block (.seq (run_reg ?_)))))
      refine e_clr ?_
      refine ez [(1, _), (2, _), (3, _), (6, _), (7, _), (8, _)] ⟨(keep_clear (pk := [8]) h1 rfl mi), (keep_clear (pk := [8]) h2 rfl mi), (keep_clear (pk := [8]) h3 rfl (map_bx rfl (map_agg (maps_cons mi (maps_cons me maps_nil))))), (keep_clear (pk := [8]) h6 rfl mb), (keep_clear (pk := [8]) h7 rfl mi), (gone_clear (pk := [8]) (t := 8) rfl)⟩ ?_
      rintro s ⟨h1, h2, h3, h6, h7, h8⟩
      refine g1 3 (.ref (.bx 3) 0 [1] (Enc.enc (x_1.2 : List (Int × Int)))) h3 fun h16 => ?_
      refine g1 16 (Enc.enc (x_1.2 : List (Int × Int))) h16 fun h17 => ?_
      refine gm h7 fun h18 => ?_
      obtain ⟨e_9, E_e_9, h⟩ := bind_some h
      refine gv (.ref .sh 0 [] (.agg [(ji e_9.1), (ji e_9.2)])) (ev_idx (t := .sh) (lo := 0) (xs := x_1.2) h17 h18 E_e_9 rfl rfl) fun h19 => ?_
      refine g1 19 (.agg [(ji e_9.1), (ji e_9.2)]) h19 fun h20 => ?_
      refine g_alloc h8 ?_
      refine g_store (.agg [(ji e_9.1), (ji e_9.2)]) (rd_of rfl rfl) (rd_of h20 rfl) (by refine ⟨by decide, by decide, rfl, rfl, rfl, ?_⟩; first | rfl | simp [V.toks, V.tokss, Enc.toks_enc]) ?_
      refine gz [(1, (ji x_2)), (2, (ji x_3)), (3, (.ref (.bx 3) 0 [] (.agg [(ji x_1.1), (Enc.enc (x_1.2 : List (Int × Int)))]))), (6, (jb false)), (7, (ji x_6)), (8, (.ref (.bx 8) 0 [] (.agg [(ji e_9.1), (ji e_9.2)])))] ⟨(keep_mut h1 rfl), (keep_mut h2 rfl), (keep_mut h3 (mut_ref_ne rfl rfl (mut_agg (muts_cons rfl (muts_cons (Enc.mut_enc _ _ _ _ (x_1.2 : List (Int × Int))) rfl))))), (keep_mut h6 rfl), (keep_mut h7 rfl), (keep_mut rfl rfl)⟩ ?_
      rintro s ⟨h1, h2, h3, h6, h7, h8⟩
      refine .nsq (.seq (rg (g1 8 (.ref (.bx 8) 0 [0] (ji e_9.1)) h8 fun h21 => ?_)))
      refine g1 21 (ji e_9.1) h21 fun h22 => ?_
      refine gm h1 fun h23 => g2 22 23 (jb (e_9.1 == x_2)) h22 h23 fun h24 => ?_
      refine gm h24 fun h25 => split_on (c := (e_9.1 == x_2)) h (fun hg5 h => ?_) (fun hg5 h => ?_)
      · refine g_yes (h25.trans (congrArg V.bool hg5)) (g1 8 (.ref (.bx 8) 0 [1] (ji e_9.2)) h8 fun h26 => ?_)
        refine g_yes (h25.trans (congrArg V.bool hg5)) (g1 26 (ji e_9.2) h26 fun h27 => ?_)
        refine g_yes (h25.trans (congrArg V.bool hg5)) (gm h2 fun h28 => ?_)
        refine g_yes (h25.trans (congrArg V.bool hg5)) (g2 27 28 (jb (e_9.2 == x_3)) h27 h28 fun h29 => ?_)
        refine g2 25 29 (jb (e_9.2 == x_3)) (h25.trans (congrArg V.bool hg5)) h29 fun h30 => ?_
        refine gm h30 fun h31 => split_on (c := (e_9.2 == x_3)) h (fun hg11 h => ?_) (fun hg11 h => ?_)
        · refine g_no (h31.trans (congrArg V.bool hg11)) ?_
          refine g_no (h31.trans (congrArg V.bool hg11)) ?_
          refine g_no (h31.trans (congrArg V.bool hg11)) ?_
          refine g_no (h31.trans (congrArg V.bool hg11)) ?_
          refine g_no (h31.trans (congrArg V.bool hg11)) ?_
          refine g_skip rfl ?_
          refine g_skip rfl ?_
          refine g_skip rfl ?_
          refine g_skip rfl ?_
          refine g_no (h31.trans (congrArg V.bool hg11)) ?_
          refine g2 31 41 (jb true) (h31.trans (congrArg V.bool hg11)) (rfl : (_ : V) = (.tup [])) fun h42 => ?_
          refine gq ?_
          exact t_f145_j1 H x_2 x_3 x_1 x_6 (s_l2Near_l1 F x_2 x_3 x_1 k) ih true _ ⟨h1, h2, h3, h6, h7, h42⟩ h
        refine g_yes (h31.trans (congrArg V.bool hg11)) (g1 8 (.ref (.bx 8) 0 [0] (ji e_9.1)) h8 fun h32 => ?_)
        refine g_yes (h31.trans (congrArg V.bool hg11)) (g1 32 (ji e_9.1) h32 fun h33 => ?_)
        refine g_yes (h31.trans (congrArg V.bool hg11)) (gm h2 fun h34 => ?_)
        refine g_yes (h31.trans (congrArg V.bool hg11)) (g2 33 34 (jb (e_9.1 == x_3)) h33 h34 fun h35 => ?_)
        refine g_yes (h31.trans (congrArg V.bool hg11)) (gm h35 fun h36 => ?_)
        refine split_on (c := (e_9.1 == x_3)) h (fun hg16 h => ?_) (fun hg16 h => ?_)
        · refine g_yes (h36.trans (congrArg V.bool hg16)) (g1 8 (.ref (.bx 8) 0 [1] (ji e_9.2)) h8 fun h37 => ?_)
          refine g_yes (h36.trans (congrArg V.bool hg16)) (g1 37 (ji e_9.2) h37 fun h38 => ?_)
          refine g_yes (h36.trans (congrArg V.bool hg16)) (gm h1 fun h39 => ?_)
          refine g_yes (h36.trans (congrArg V.bool hg16)) (g2 38 39 (jb (e_9.2 == x_2)) h38 h39 fun h40 => ?_)
          refine g_yes (h31.trans (congrArg V.bool hg11)) (g2 36 40 (jb (e_9.2 == x_2)) (h36.trans (congrArg V.bool hg16)) h40 fun h41 => ?_)
          refine g2 31 41 (jb (e_9.2 == x_2)) (h31.trans (congrArg V.bool hg11)) h41 fun h42 => ?_
          refine gq ?_
          exact t_f145_j1 H x_2 x_3 x_1 x_6 (s_l2Near_l1 F x_2 x_3 x_1 k) ih (e_9.2 == x_2) _ ⟨h1, h2, h3, h6, h7, h42⟩ h
        refine g_no (h36.trans (congrArg V.bool hg16)) ?_
        refine g_no (h36.trans (congrArg V.bool hg16)) ?_
        refine g_no (h36.trans (congrArg V.bool hg16)) ?_
        refine g_no (h36.trans (congrArg V.bool hg16)) ?_
        refine g_yes (h31.trans (congrArg V.bool hg11)) (g2 36 40 (jb false) (h36.trans (congrArg V.bool hg16)) (rfl : (_ : V) = (.tup [])) fun h41 => ?_)
        refine g2 31 41 (jb false) (h31.trans (congrArg V.bool hg11)) h41 fun h42 => ?_
        refine gq ?_
        exact t_f145_j1 H x_2 x_3 x_1 x_6 (s_l2Near_l1 F x_2 x_3 x_1 k) ih false _ ⟨h1, h2, h3, h6, h7, h42⟩ h
      refine g_no (h25.trans (congrArg V.bool hg5)) ?_
      refine g_no (h25.trans (congrArg V.bool hg5)) ?_
      refine g_no (h25.trans (congrArg V.bool hg5)) ?_
      refine g_no (h25.trans (congrArg V.bool hg5)) ?_
      refine g2 25 29 (jb false) (h25.trans (congrArg V.bool hg5)) (rfl : (_ : V) = (.tup [])) fun h30 => ?_
      refine gm h30 fun h31 => g_yes h31 (g1 8 (.ref (.bx 8) 0 [0] (ji e_9.1)) h8 fun h32 => ?_)
      refine g_yes h31 (g1 32 (ji e_9.1) h32 fun h33 => ?_)
      refine g_yes h31 (gm h2 fun h34 => ?_)
      refine g_yes h31 (g2 33 34 (jb (e_9.1 == x_3)) h33 h34 fun h35 => ?_)
      refine g_yes h31 (gm h35 fun h36 => ?_)
      refine split_on (c := (e_9.1 == x_3)) h (fun hg16 h => ?_) (fun hg16 h => ?_)
      · refine g_yes (h36.trans (congrArg V.bool hg16)) (g1 8 (.ref (.bx 8) 0 [1] (ji e_9.2)) h8 fun h37 => ?_)
        refine g_yes (h36.trans (congrArg V.bool hg16)) (g1 37 (ji e_9.2) h37 fun h38 => ?_)
        refine g_yes (h36.trans (congrArg V.bool hg16)) (gm h1 fun h39 => ?_)
        refine g_yes (h36.trans (congrArg V.bool hg16)) (g2 38 39 (jb (e_9.2 == x_2)) h38 h39 fun h40 => ?_)
        refine g_yes h31 (g2 36 40 (jb (e_9.2 == x_2)) (h36.trans (congrArg V.bool hg16)) h40 fun h41 => ?_)
        refine g2 31 41 (jb (e_9.2 == x_2)) h31 h41 fun h42 => ?_
        refine gq ?_
        exact t_f145_j1 H x_2 x_3 x_1 x_6 (s_l2Near_l1 F x_2 x_3 x_1 k) ih (e_9.2 == x_2) _ ⟨h1, h2, h3, h6, h7, h42⟩ h
      refine g_no (h36.trans (congrArg V.bool hg16)) ?_
      refine g_no (h36.trans (congrArg V.bool hg16)) ?_
      refine g_no (h36.trans (congrArg V.bool hg16)) ?_
      refine g_no (h36.trans (congrArg V.bool hg16)) ?_
      refine g_yes h31 (g2 36 40 (jb false) (h36.trans (congrArg V.bool hg16)) (rfl : (_ : V) = (.tup [])) fun h41 => ?_)
      refine g2 31 41 (jb false) h31 h41 fun h42 => ?_
      refine gq ?_
      exact t_f145_j1 H x_2 x_3 x_1 x_6 (s_l2Near_l1 F x_2 x_3 x_1 k) ih false _ ⟨h1, h2, h3, h6, h7, h42⟩ h
    refine .exit (.esq (.elp (.ebk (.nsq (.seq (rg (g0 (jb false) fun h6 => ?_)))))))
    refine gq (.nsq (.ret ?_))
    have hr := Option.some.inj h
    subst hr
    exact rrA (res_tmp h6) rfl
def s_l2Near (F : Nat) (x_1 : (Int × (List (Int × Int)))) (x_2 : Int) (x_3 : Int) : Option Bool :=
  s_l2Near_l1 F x_2 x_3 x_1 F 0
theorem t145 (H : H145 D σ F) (x_1 : (Int × (List (Int × Int)))) (x_2 : Int) (x_3 : Int) (s : Nat → V) (hs : Facts [(0, (.agg [(ji x_1.1), (Enc.enc (x_1.2 : List (Int × Int)))])), (1, (ji x_2)), (2, (ji x_3))] s) (h : s_l2Near F x_1 x_2 x_3 = some r) : Run D σ (R145 r) (.run A145 []) s := by
  unfold s_l2Near at h
  obtain ⟨h0, h1, h2⟩ := hs
  refine .seq (run_reg ?_)
  refine e_clr ?_
  refine ez [(0, _), (1, _), (2, _), (3, _)] ⟨(keep_clear (pk := [3]) h0 rfl (map_agg (maps_cons mi (maps_cons me maps_nil)))), (keep_clear (pk := [3]) h1 rfl mi), (keep_clear (pk := [3]) h2 rfl mi), (gone_clear (pk := [3]) (t := 3) rfl)⟩ ?_
  rintro s ⟨h0, h1, h2, h3⟩
  refine g_box (.agg [(ji x_1.1), (Enc.enc (x_1.2 : List (Int × Int)))]) (rd_of h0 rfl) h3 rfl ?_
  refine g0 (jb false) fun h6 => ?_
  refine gq (.nsq (.seq (.seq (rg (g0 (ji 0) fun h7 => gq (.nsq (.block (.loop ?_))))))))
  exact t_f145_l1 H x_2 x_3 x_1 F 0 _ ⟨h1, h2, rfl, h6, h7⟩ h
end
def e145 (F : Nat) : Ent := ent 145 (fun (x : ((Int × (List (Int × Int))) × Int × Int × Unit)) => s_l2Near F x.1 x.2.1 x.2.2.1) (fun (r : Bool) => (Enc.enc (r : Bool))) 0 false []
theorem p145 {F : Nat} {x0 : (Int × (List (Int × Int)))} {x1 : Int} {x2 : Int} {r : Bool} (h : s_l2Near F x0 x1 x2 = some r) : (e145 F).den [Enc.enc x0, Enc.enc x1, Enc.enc x2] = some (Enc.enc (r : Bool)) := ent_put (x0, x1, x2, ()) h
theorem o145 {D : Den} {σ : Sig} {F : Nat} (hF : Fits2 Try.prog D σ) (H : H145 D σ F) : (e145 F).Ok Try.prog := by
  refine ok_of (f := 145) (show unk 145 = 145 from rfl) (fun args r h => ?_) ⟨Try.f145, Try.func145, rfl, rfl⟩
  obtain ⟨⟨x0, x1, x2, _⟩, y, rfl, hy, rfl⟩ := da_open h
  exact contract_run hF (by kernel_rfl) Try.func145 rfl c145 (show 3 ≤ Try.f145.ntmps by decide) (t145 H x0 x1 x2 _ ⟨rfl, rfl, rfl⟩ hy)
/- loop.example/g01109/spec.l2Reach -/
def A179_2 : AC := (.cond (.t 16) .skip (.exit 0))
def A179_6 : AC := (.cond (.t 22) .skip (.exit 2))
def A179_10 : AC := (.cond (.t 37) .skip (.exit 4))
def A179_12 : AC := (.cond (.t 49) (.reg [.frz 7] [(jm 50 7), (jm 51 1), (jm 52 9), ((jv 53 (.idx (.t 51) (.t 52) 1))), ((jv 54 (.load .s (.t 53)))), (.mk (some 55) none false (.call (.k (.fn 146 [] [])) [(.t 50), (.t 54)])), (jm 7 55)] []) .skip)
def A179_13 : AC := (.reg [] [(jm 38 10), ((jv 39 (.bin .add (.t 38) (jn 1)))), (jm 10 39)] [])
def A179_11 : AC := (.seq (.block 5 (.seq (.reg [] [((jv 40 (.load (.ag [.s, .p]) (.t 3)))), (jm 41 7), (jm 42 10), ((jv 43 (.idx (.t 41) (.t 42) 1))), ((jv 44 (.load .s (.t 43)))), (jm 45 1), (jm 46 9), ((jv 47 (.idx (.t 45) (.t 46) 1))), ((jv 48 (.load .s (.t 47)))), (.mk (some 49) none false (.call (.k (.fn 145 [] [])) [(.t 40), (.t 44), (.t 48)]))] []) A179_12)) A179_13)
def A179_9 : AC := (.seq (.seq (.reg [] [(jm 25 10), (jm 26 7), ((jv 27 (.len (.t 26)))), ((jv 28 (.bin .lss (.t 25) (.t 27)))), (jm 29 28), ((jg 30 29 true (.mov (.t 7)))), ((jg 31 29 true (.mov (.t 1)))), ((jg 32 29 true (.mov (.t 9)))), ((jg 33 29 true (.idx (.t 31) (.t 32) 1))), ((jg 34 29 true (.load .s (.t 33)))), (.mk (some 35) (some (29, true)) false (.call (.k (.fn 74 [] [])) [(.t 30), (.t 34)])), ((jg 36 29 true (.un .not (.t 35)))), ((jv 37 (.pick (.t 29) (.t 36) (.k (.bool false)))))] []) A179_10) A179_11)
def A179_8 : AC := (.block 4 (.loop A179_9))
def A179_14 : AC := (.reg [] [(jm 23 9), ((jv 24 (.bin .add (.t 23) (jn 1)))), (jm 9 24)] [])
def A179_7 : AC := (.seq (.block 3 (.seq (.reg [] [((jv 10 (.mov (jn 0))))] []) A179_8)) A179_14)
def A179_5 : AC := (.seq (.seq (.reg [] [(jm 19 9), (jm 20 1), ((jv 21 (.len (.t 20)))), ((jv 22 (.bin .lss (.t 19) (.t 21))))] []) A179_6) A179_7)
def A179_4 : AC := (.block 2 (.loop A179_5))
def A179_15 : AC := (.reg [] [(jm 17 8), ((jv 18 (.bin .add (.t 17) (jn 1)))), (jm 8 18)] [])
def A179_3 : AC := (.seq (.block 1 (.seq (.reg [] [((jv 9 (.mov (jn 0))))] []) A179_4)) A179_15)
def A179_1 : AC := (.seq (.seq (.reg [] [(jm 13 8), (jm 14 1), ((jv 15 (.len (.t 14)))), ((jv 16 (.bin .lss (.t 13) (.t 15))))] []) A179_2) A179_3)
def A179_16 : AC := (.seq (.reg [] [(jm 56 7), (jm 6 56)] []) .ret)
def A179_19 : AC := (.block 0 (.loop A179_1))
def A179_18 : AC := (.seq (.seq (.reg [] [((jv 8 (.mov (jn 0))))] []) A179_19) A179_16)
def A179_17 : AC := (.seq (.reg [.clr [12]] [(jm 11 2), (.mk (some 12) none false (.lit (.int .i64 (.ofNat 0)) 1 [(0, 0, (.t 11))])), (jm 7 12)] [.home 12 7, .frz 7]) A179_18)
def A179 : AC := (.seq (.reg [.clr [3]] [(.mk (some 3) none false (.box (.t 0))), ((jv 6 (.mov (.k (.sl .nl .s 0 [])))))] []) A179_17)
def an179 : List An := [{ id := 0, pre := [.clr [3]], ep := [], lin := [], sp := [] }, { id := 1, pre := [.clr [12]], ep := [.home 12 7, .frz 7], lin := [], sp := [] }, { id := 12, pre := [.frz 7], ep := [], lin := [], sp := [] }]
theorem c179 : cC Try.prog Try.f179.ntmps an179 (Try.f179.body.getD .skip) = some A179 := by kernel_rfl
structure H179 (D : Den) (σ : Sig) (F : Nat) : Prop where
  c74 : ∀ (x0 : (List Int)) (x1 : Int) r, s_l1Has F x0 x1 = some r → D 74 [Enc.enc x0, Enc.enc x1] = some (Enc.enc (r : Bool))
  g74 : σ 74 = some (0, false)
  c145 : ∀ (x0 : (Int × (List (Int × Int)))) (x1 : Int) (x2 : Int) r, s_l2Near F x0 x1 x2 = some r → D 145 [Enc.enc x0, Enc.enc x1, Enc.enc x2] = some (Enc.enc (r : Bool))
  g145 : σ 145 = some (0, false)
  c146 : ∀ (x0 : (List Int)) (x1 : Int) r, s_l1Put F x0 x1 = some r → D 146 [Enc.enc x0, Enc.enc x1] = some (Enc.enc (r : (List Int)))
  g146 : σ 146 = some (0, true)
abbrev R179 (r : (List Int)) : (Nat → V) → Prop := RR Try.prog [.tmp 6] 0 true (Enc.enc (r : (List Int)))
section
variable {D : Den} {σ : Sig} {F : Nat} {r : (List Int)}
def s_l2Reach_j1 (F : Nat) (x_2 : (List Int)) (x_1 : (Int × (List (Int × Int)))) (x_130 : Int) (x_298 : Int) (x_354 : Int) (c1 : (List Int) → Int → Option (List Int)) (c10 : (List Int) → Int → Option (List Int)) (c13 : (List Int) → Int → Option (List Int)) (x_376 : (List Int)) : Option (List Int) :=
  c13 x_376 (w64 (x_354 + 1))
theorem t_f179_j1 (H : H179 D σ F) (x_2 : (List Int)) (x_1 : (Int × (List (Int × Int)))) (x_130 : Int) (x_298 : Int) (x_354 : Int) (c1 : (List Int) → Int → Option (List Int)) (Hc1 : ∀ (x_129 : (List Int)) (x_130 : Int) (s : Nat → V), Facts [(1, (eL x_2)), (3, (.ref (.bx 3) 0 [] (.agg [(ji x_1.1), (Enc.enc (x_1.2 : List (Int × Int)))]))), (6, (.sl .nl (Enc.shp Int) 0 [])), (7, (eL x_129)), (8, (ji x_130))] s → c1 x_129 x_130 = some r → Run D σ (R179 r) (.run A179_1 [.lp A179_1, .bk 0, .sq A179_16]) s) (c10 : (List Int) → Int → Option (List Int)) (Hc10 : ∀ (x_297 : (List Int)) (x_298 : Int) (s : Nat → V), Facts [(1, (eL x_2)), (3, (.ref (.bx 3) 0 [] (.agg [(ji x_1.1), (Enc.enc (x_1.2 : List (Int × Int)))]))), (6, (.sl .nl (Enc.shp Int) 0 [])), (7, (eL x_297)), (8, (ji x_130)), (9, (ji x_298))] s → c10 x_297 x_298 = some r → Run D σ (R179 r) (.run A179_5 [.lp A179_5, .bk 2, .bk 1, .sq A179_15, .lp A179_1, .bk 0, .sq A179_16]) s) (c13 : (List Int) → Int → Option (List Int)) (Hc13 : ∀ (x_353 : (List Int)) (x_354 : Int) (s : Nat → V), Facts [(1, (eL x_2)), (3, (.ref (.bx 3) 0 [] (.agg [(ji x_1.1), (Enc.enc (x_1.2 : List (Int × Int)))]))), (6, (.sl .nl (Enc.shp Int) 0 [])), (7, (eL x_353)), (8, (ji x_130)), (9, (ji x_298)), (10, (ji x_354))] s → c13 x_353 x_354 = some r → Run D σ (R179 r) (.run A179_9 [.lp A179_9, .bk 4, .bk 3, .sq A179_14, .lp A179_5, .bk 2, .bk 1, .sq A179_15, .lp A179_1, .bk 0, .sq A179_16]) s) (x_376 : (List Int)) (s : Nat → V) (hs : Facts [(1, (eL x_2)), (3, (.ref (.bx 3) 0 [] (.agg [(ji x_1.1), (Enc.enc (x_1.2 : List (Int × Int)))]))), (6, (.sl .nl (Enc.shp Int) 0 [])), (7, (eL x_376)), (8, (ji x_130)), (9, (ji x_298)), (10, (ji x_354))] s) (h : s_l2Reach_j1 F x_2 x_1 x_130 x_298 x_354 c1 c10 c13 x_376 = some r) : Run D σ (R179 r) (.nrm [.bk 5, .sq A179_13, .lp A179_9, .bk 4, .bk 3, .sq A179_14, .lp A179_5, .bk 2, .bk 1, .sq A179_15, .lp A179_1, .bk 0, .sq A179_16]) s := by
  unfold s_l2Reach_j1 at h
  obtain ⟨h1, h3, h6, h7, h8, h9, h10⟩ := hs
  refine .nbk (.nsq (rg (gm h10 fun h38 => g1 38 (ji (w64 (x_354 + 1))) h38 fun h39 => ?_)))
  refine gm h39 fun h10 => gq (.nlp ?_)
  exact Hc13 x_376 (w64 (x_354 + 1)) _ ⟨h1, h3, h6, h7, h8, h9, h10⟩ h
def s_l2Reach_j2 (F : Nat) (x_2 : (List Int)) (x_1 : (Int × (List (Int × Int)))) (x_353 : (List Int)) (x_130 : Int) (x_298 : Int) (x_354 : Int) (c1 : (List Int) → Int → Option (List Int)) (c10 : (List Int) → Int → Option (List Int)) (c13 : (List Int) → Int → Option (List Int)) (x_370 : Bool) : Option (List Int) :=
  bif x_370 then
    (idx x_353 x_354).bind fun e_371 =>
    (idx x_2 x_298).bind fun e_372 =>
    (s_l2Near F x_1 e_371 e_372).bind fun r_373 =>
    bif r_373 then
      (idx x_2 x_298).bind fun e_377 =>
      (s_l1Put F x_353 e_377).bind fun r_378 =>
      s_l2Reach_j1 F x_2 x_1 x_130 x_298 x_354 c1 c10 c13 r_378
    else
      s_l2Reach_j1 F x_2 x_1 x_130 x_298 x_354 c1 c10 c13 x_353
  else
    c10 x_353 (w64 (x_298 + 1))
theorem t_f179_j2 (H : H179 D σ F) (x_2 : (List Int)) (x_1 : (Int × (List (Int × Int)))) (x_353 : (List Int)) (x_130 : Int) (x_298 : Int) (x_354 : Int) (c1 : (List Int) → Int → Option (List Int)) (Hc1 : ∀ (x_129 : (List Int)) (x_130 : Int) (s : Nat → V), Facts [(1, (eL x_2)), (3, (.ref (.bx 3) 0 [] (.agg [(ji x_1.1), (Enc.enc (x_1.2 : List (Int × Int)))]))), (6, (.sl .nl (Enc.shp Int) 0 [])), (7, (eL x_129)), (8, (ji x_130))] s → c1 x_129 x_130 = some r → Run D σ (R179 r) (.run A179_1 [.lp A179_1, .bk 0, .sq A179_16]) s) (c10 : (List Int) → Int → Option (List Int)) (Hc10 : ∀ (x_297 : (List Int)) (x_298 : Int) (s : Nat → V), Facts [(1, (eL x_2)), (3, (.ref (.bx 3) 0 [] (.agg [(ji x_1.1), (Enc.enc (x_1.2 : List (Int × Int)))]))), (6, (.sl .nl (Enc.shp Int) 0 [])), (7, (eL x_297)), (8, (ji x_130)), (9, (ji x_298))] s → c10 x_297 x_298 = some r → Run D σ (R179 r) (.run A179_5 [.lp A179_5, .bk 2, .bk 1, .sq A179_15, .lp A179_1, .bk 0, .sq A179_16]) s) (c13 : (List Int) → Int → Option (List Int)) (Hc13 : ∀ (x_353 : (List Int)) (x_354 : Int) (s : Nat → V), Facts [(1, (eL x_2)), (3, (.ref (.bx 3) 0 [] (.agg [(ji x_1.1), (Enc.enc (x_1.2 : List (Int × Int)))]))), (6, (.sl .nl (Enc.shp Int) 0 [])), (7, (eL x_353)), (8, (ji x_130)), (9, (ji x_298)), (10, (ji x_354))] s → c13 x_353 x_354 = some r → Run D σ (R179 r) (.run A179_9 [.lp A179_9, .bk 4, .bk 3, .sq A179_14, .lp A179_5, .bk 2, .bk 1, .sq A179_15, .lp A179_1, .bk 0, .sq A179_16]) s) (x_370 : Bool) (s : Nat → V) (hs : Facts [(1, (eL x_2)), (3, (.ref (.bx 3) 0 [] (.agg [(ji x_1.1), (Enc.enc (x_1.2 : List (Int × Int)))]))), (6, (.sl .nl (Enc.shp Int) 0 [])), (7, (eL x_353)), (8, (ji x_130)), (9, (ji x_298)), (10, (ji x_354)), (37, (jb x_370))] s) (h : s_l2Reach_j2 F x_2 x_1 x_353 x_130 x_298 x_354 c1 c10 c13 x_370 = some r) : Run D σ (R179 r) (.nrm [.sq A179_10, .sq A179_11, .lp A179_9, .bk 4, .bk 3, .sq A179_14, .lp A179_5, .bk 2, .bk 1, .sq A179_15, .lp A179_1, .bk 0, .sq A179_16]) s := by
  unfold s_l2Reach_j2 at h
  obtain ⟨h1, h3, h6, h7, h8, h9, h10, h37⟩ := hs
  refine .nsq (run_cond (t := x_370) h37 h (fun h => ?_) (fun h => ?_))
  · refine .skip (.nsq (.seq (.block (.seq (rg (g1 3 (.agg [(ji x_1.1), (Enc.enc (x_1.2 : List (Int × Int)))]) h3 fun h40 => ?_))))))
    refine gm h7 fun h41 => gm h10 fun h42 => ?_
    obtain ⟨e_371, E_e_371, h⟩ := bind_some h
    refine gv (.ref .sh 0 [] (ji e_371)) (ev_idx (t := .sh) (lo := 0) (xs := x_353) h41 h42 E_e_371 rfl rfl) fun h43 => ?_
    refine g1 43 (ji e_371) h43 fun h44 => ?_
    refine gm h1 fun h45 => gm h9 fun h46 => ?_
    obtain ⟨e_372, E_e_372, h⟩ := bind_some h
    refine gv (.ref .sh 0 [] (ji e_372)) (ev_idx (t := .sh) (lo := 0) (xs := x_2) h45 h46 E_e_372 rfl rfl) fun h47 => ?_
    refine g1 47 (ji e_372) h47 fun h48 => ?_
    obtain ⟨r_373, E_r_373, h⟩ := bind_some h
    refine g_call (m := 0) (al := false) (r := (Enc.enc (r_373 : Bool))) [Enc.enc (x_1 : (Int × (List (Int × Int)))), Enc.enc (e_371 : Int), Enc.enc (e_372 : Int)] (ta_cons (v := (.agg [(ji x_1.1), (Enc.enc (x_1.2 : List (Int × Int)))])) h40 rfl (Enc.erase_enc (x_1 : (Int × (List (Int × Int))))) (ta_cons (v := (ji e_371)) h44 rfl rfl (ta_cons (v := (ji e_372)) h48 rfl rfl ta_nil))) (H.c145 _ _ _ _ E_r_373) H.g145 rfl rfl rfl rfl ?_
    refine gq (.nsq (run_cond (t := r_373) rfl h (fun h => ?_) (fun h => ?_)))
    · refine run_reg ?_
      refine e_frz (x := 7) (v := (eL x_353)) [] (by exact h7) (Enc.toks_enc (x_353 : List Int)) (fun s_58 hg_58 => ?_)
      refine ez [(1, _), (3, _), (6, _), (7, _), (8, _), (9, _), (10, _)] ⟨(hg_58 1 (eL x_2) (eL x_2) h1 (frz_none _)), (hg_58 3 (.ref (.bx 3) 0 [] (.agg [(ji x_1.1), (Enc.enc (x_1.2 : List (Int × Int)))])) (.ref (.bx 3) 0 [] (.agg [(ji x_1.1), (Enc.enc (x_1.2 : List (Int × Int)))])) h3 (frz_none _)), (hg_58 6 (.sl .nl (Enc.shp Int) 0 []) (.sl .nl (Enc.shp Int) 0 []) h6 (frz_none _)), (hg_58 7 (eL x_353) (eL x_353) h7 (frz_none _)), (hg_58 8 (ji x_130) (ji x_130) h8 (frz_none _)), (hg_58 9 (ji x_298) (ji x_298) h9 (frz_none _)), (hg_58 10 (ji x_354) (ji x_354) h10 (frz_none _))⟩ ?_
      rintro s ⟨h1, h3, h6, h7, h8, h9, h10⟩
      refine gm h7 fun h50 => gm h1 fun h51 => gm h9 fun h52 => ?_
      obtain ⟨e_377, E_e_377, h⟩ := bind_some h
      refine gv (.ref .sh 0 [] (ji e_377)) (ev_idx (t := .sh) (lo := 0) (xs := x_2) h51 h52 E_e_377 rfl rfl) fun h53 => ?_
      refine g1 53 (ji e_377) h53 fun h54 => ?_
      obtain ⟨r_378, E_r_378, h⟩ := bind_some h
      refine g_call (m := 0) (al := true) (r := (Enc.enc (r_378 : (List Int)))) [Enc.enc (x_353 : (List Int)), Enc.enc (e_377 : Int)] (ta_cons (v := (eL x_353)) h50 rfl (Enc.erase_enc (x_353 : (List Int))) (ta_cons (v := (ji e_377)) h54 rfl rfl ta_nil)) (H.c146 _ _ _ E_r_378) H.g146 (hal_of (ht_cons (v := (eL x_353)) h50 rfl rfl (ht_cons (v := (ji e_377)) h54 rfl rfl ht_nil))) rfl rfl rfl ?_
      refine gm (rfl : (_ : V) = (eL r_378)) fun h7 => ?_
      refine gq ?_
      exact t_f179_j1 H x_2 x_1 x_130 x_298 x_354 c1 Hc1 c10 Hc10 c13 Hc13 r_378 _ ⟨h1, h3, h6, h7, h8, h9, h10⟩ h
    refine .skip ?_
    exact t_f179_j1 H x_2 x_1 x_130 x_298 x_354 c1 Hc1 c10 Hc10 c13 Hc13 x_353 _ ⟨h1, h3, h6, h7, h8, h9, h10⟩ h
  refine .exit (.esq (.elp (.ebk (.nbk (.nsq (rg (gm h9 fun h23 => g1 23 (ji (w64 (x_298 + 1))) h23 fun h24 => ?_)))))))
  refine gm h24 fun h9 => gq (.nlp ?_)
  exact Hc10 x_353 (w64 (x_298 + 1)) _ ⟨h1, h3, h6, h7, h8, h9⟩ h
def s_l2Reach_l1 (F : Nat) (x_2 : (List Int)) (x_1 : (Int × (List (Int × Int)))) (x_130 : Int) (x_298 : Int) (c1 : (List Int) → Int → Option (List Int)) (c10 : (List Int) → Int → Option (List Int)) : Nat → (List Int) → Int → Option (List Int)
  | 0, _, _ => none
  | k + 1, x_353, x_354 =>
    bif decide (x_354 < (x_353.length : Int)) then
      (idx x_2 x_298).bind fun e_379 =>
      (s_l1Has F x_353 e_379).bind fun r_380 =>
      s_l2Reach_j2 F x_2 x_1 x_353 x_130 x_298 x_354 c1 c10 (s_l2Reach_l1 F x_2 x_1 x_130 x_298 c1 c10 k) (!r_380)
    else
      s_l2Reach_j2 F x_2 x_1 x_353 x_130 x_298 x_354 c1 c10 (s_l2Reach_l1 F x_2 x_1 x_130 x_298 c1 c10 k) false
theorem t_f179_l1 (H : H179 D σ F) (x_2 : (List Int)) (x_1 : (Int × (List (Int × Int)))) (x_130 : Int) (x_298 : Int) (c1 : (List Int) → Int → Option (List Int)) (Hc1 : ∀ (x_129 : (List Int)) (x_130 : Int) (s : Nat → V), Facts [(1, (eL x_2)), (3, (.ref (.bx 3) 0 [] (.agg [(ji x_1.1), (Enc.enc (x_1.2 : List (Int × Int)))]))), (6, (.sl .nl (Enc.shp Int) 0 [])), (7, (eL x_129)), (8, (ji x_130))] s → c1 x_129 x_130 = some r → Run D σ (R179 r) (.run A179_1 [.lp A179_1, .bk 0, .sq A179_16]) s) (c10 : (List Int) → Int → Option (List Int)) (Hc10 : ∀ (x_297 : (List Int)) (x_298 : Int) (s : Nat → V), Facts [(1, (eL x_2)), (3, (.ref (.bx 3) 0 [] (.agg [(ji x_1.1), (Enc.enc (x_1.2 : List (Int × Int)))]))), (6, (.sl .nl (Enc.shp Int) 0 [])), (7, (eL x_297)), (8, (ji x_130)), (9, (ji x_298))] s → c10 x_297 x_298 = some r → Run D σ (R179 r) (.run A179_5 [.lp A179_5, .bk 2, .bk 1, .sq A179_15, .lp A179_1, .bk 0, .sq A179_16]) s) : ∀ (k : Nat) (x_353 : (List Int)) (x_354 : Int) (s : Nat → V), Facts [(1, (eL x_2)), (3, (.ref (.bx 3) 0 [] (.agg [(ji x_1.1), (Enc.enc (x_1.2 : List (Int × Int)))]))), (6, (.sl .nl (Enc.shp Int) 0 [])), (7, (eL x_353)), (8, (ji x_130)), (9, (ji x_298)), (10, (ji x_354))] s → s_l2Reach_l1 F x_2 x_1 x_130 x_298 c1 c10 k x_353 x_354 = some r → Run D σ (R179 r) (.run A179_9 [.lp A179_9, .bk 4, .bk 3, .sq A179_14, .lp A179_5, .bk 2, .bk 1, .sq A179_15, .lp A179_1, .bk 0, .sq A179_16]) s := by
  intro k
  induction k with
  | zero => intro x_353 x_354 s _ h; exact nomatch (h : (none : Option _) = some r)
  | succ k ih =>
    intro x_353 x_354 s hs h
    rw [s_l2Reach_l1] at h
    obtain ⟨h1, h3, h6, h7, h8, h9, h10⟩ := hs
    refine .seq (.seq (rg (gm h10 fun h25 => gm h7 fun h26 => gv (ji (x_353.length : Int)) (ev_len (xs := x_353) h26) fun h27 => ?_)))
    refine g2 25 27 (jb (decide (x_354 < (x_353.length : Int)))) h25 h27 fun h28 => ?_
    refine gm h28 fun h29 => split_on (c := decide (x_354 < (x_353.length : Int))) h (fun hg5 h => ?_) (fun hg5 h => ?_)
    · refine g_yes (h29.trans (congrArg V.bool hg5)) (gm h7 fun h30 => ?_)
      refine g_yes (h29.trans (congrArg V.bool hg5)) (gm h1 fun h31 => ?_)
      refine g_yes (h29.trans (congrArg V.bool hg5)) (gm h9 fun h32 => ?_)
      obtain ⟨e_379, E_e_379, h⟩ := bind_some h
      refine g_yes (h29.trans (congrArg V.bool hg5)) (gv (.ref .sh 0 [] (ji e_379)) (ev_idx (t := .sh) (lo := 0) (xs := x_2) h31 h32 E_e_379 rfl rfl) fun h33 => ?_)
      refine g_yes (h29.trans (congrArg V.bool hg5)) (g1 33 (ji e_379) h33 fun h34 => ?_)
      obtain ⟨r_380, E_r_380, h⟩ := bind_some h
      refine g_yes (h29.trans (congrArg V.bool hg5)) (g_call (m := 0) (al := false) (r := (Enc.enc (r_380 : Bool))) [Enc.enc (x_353 : (List Int)), Enc.enc (e_379 : Int)] (ta_cons (v := (eL x_353)) h30 rfl (Enc.erase_enc (x_353 : (List Int))) (ta_cons (v := (ji e_379)) h34 rfl rfl ta_nil)) (H.c74 _ _ _ E_r_380) H.g74 rfl rfl rfl rfl ?_)
      refine g_yes (h29.trans (congrArg V.bool hg5)) (g1 35 (jb (!r_380)) (rfl : (_ : V) = (jb r_380)) fun h36 => ?_)
      refine g2 29 36 (jb (!r_380)) (h29.trans (congrArg V.bool hg5)) h36 fun h37 => ?_
      refine gq ?_
      exact t_f179_j2 H x_2 x_1 x_353 x_130 x_298 x_354 c1 Hc1 c10 Hc10 (s_l2Reach_l1 F x_2 x_1 x_130 x_298 c1 c10 k) ih (!r_380) _ ⟨h1, h3, h6, h7, h8, h9, h10, h37⟩ h
    refine g_no (h29.trans (congrArg V.bool hg5)) ?_
    refine g_no (h29.trans (congrArg V.bool hg5)) ?_
    refine g_no (h29.trans (congrArg V.bool hg5)) ?_
    refine g_no (h29.trans (congrArg V.bool hg5)) ?_
    refine g_no (h29.trans (congrArg V.bool hg5)) ?_
    refine g_no (h29.trans (congrArg V.bool hg5)) ?_
    refine g_no (h29.trans (congrArg V.bool hg5)) ?_
    refine g2 29 36 (jb false) (h29.trans (congrArg V.bool hg5)) (rfl : (_ : V) = (.tup [])) fun h37 => ?_
    refine gq ?_
    exact t_f179_j2 H x_2 x_1 x_353 x_130 x_298 x_354 c1 Hc1 c10 Hc10 (s_l2Reach_l1 F x_2 x_1 x_130 x_298 c1 c10 k) ih false _ ⟨h1, h3, h6, h7, h8, h9, h10, h37⟩ h
def s_l2Reach_l2 (F : Nat) (x_2 : (List Int)) (x_1 : (Int × (List (Int × Int)))) (x_130 : Int) (c1 : (List Int) → Int → Option (List Int)) : Nat → (List Int) → Int → Option (List Int)
  | 0, _, _ => none
  | k + 1, x_297, x_298 =>
    bif decide (x_298 < (x_2.length : Int)) then
      s_l2Reach_l1 F x_2 x_1 x_130 x_298 c1 (s_l2Reach_l2 F x_2 x_1 x_130 c1 k) F x_297 0
    else
      c1 x_297 (w64 (x_130 + 1))
theorem t_f179_l2 (H : H179 D σ F) (x_2 : (List Int)) (x_1 : (Int × (List (Int × Int)))) (x_130 : Int) (c1 : (List Int) → Int → Option (List Int)) (Hc1 : ∀ (x_129 : (List Int)) (x_130 : Int) (s : Nat → V), Facts [(1, (eL x_2)), (3, (.ref (.bx 3) 0 [] (.agg [(ji x_1.1), (Enc.enc (x_1.2 : List (Int × Int)))]))), (6, (.sl .nl (Enc.shp Int) 0 [])), (7, (eL x_129)), (8, (ji x_130))] s → c1 x_129 x_130 = some r → Run D σ (R179 r) (.run A179_1 [.lp A179_1, .bk 0, .sq A179_16]) s) : ∀ (k : Nat) (x_297 : (List Int)) (x_298 : Int) (s : Nat → V), Facts [(1, (eL x_2)), (3, (.ref (.bx 3) 0 [] (.agg [(ji x_1.1), (Enc.enc (x_1.2 : List (Int × Int)))]))), (6, (.sl .nl (Enc.shp Int) 0 [])), (7, (eL x_297)), (8, (ji x_130)), (9, (ji x_298))] s → s_l2Reach_l2 F x_2 x_1 x_130 c1 k x_297 x_298 = some r → Run D σ (R179 r) (.run A179_5 [.lp A179_5, .bk 2, .bk 1, .sq A179_15, .lp A179_1, .bk 0, .sq A179_16]) s := by
  intro k
  induction k with
  | zero => intro x_297 x_298 s _ h; exact nomatch (h : (none : Option _) = some r)
  | succ k ih =>
    intro x_297 x_298 s hs h
    rw [s_l2Reach_l2] at h
    obtain ⟨h1, h3, h6, h7, h8, h9⟩ := hs
    refine .seq (.seq (rg (gm h9 fun h19 => gm h1 fun h20 => gv (ji (x_2.length : Int)) (ev_len (xs := x_2) h20) fun h21 => ?_)))
    refine g2 19 21 (jb (decide (x_298 < (x_2.length : Int)))) h19 h21 fun h22 => ?_
    refine gq (.nsq (run_cond (t := decide (x_298 < (x_2.length : Int))) h22 h (fun h => ?_) (fun h => ?_)))
    · refine .skip (.nsq (.seq (.block (.seq (rg (g0 (ji 0) fun h10 => gq (.nsq (.block (.loop ?_)))))))))
      exact t_f179_l1 H x_2 x_1 x_130 x_298 c1 Hc1 (s_l2Reach_l2 F x_2 x_1 x_130 c1 k) ih F x_297 0 _ ⟨h1, h3, h6, h7, h8, h9, h10⟩ h
    refine .exit (.esq (.elp (.ebk (.nbk (.nsq (rg (gm h8 fun h17 => g1 17 (ji (w64 (x_130 + 1))) h17 fun h18 => ?_)))))))
    refine gm h18 fun h8 => gq (.nlp ?_)
    exact Hc1 x_297 (w64 (x_130 + 1)) _ ⟨h1, h3, h6, h7, h8⟩ h
def s_l2Reach_l3 (F : Nat) (x_2 : (List Int)) (x_1 : (Int × (List (Int × Int))))  : Nat → (List Int) → Int → Option (List Int)
  | 0, _, _ => none
  | k + 1, x_129, x_130 =>
    bif decide (x_130 < (x_2.length : Int)) then
      s_l2Reach_l2 F x_2 x_1 x_130 (s_l2Reach_l3 F x_2 x_1 k) F x_129 0
    else
      some x_129
theorem t_f179_l3 (H : H179 D σ F) (x_2 : (List Int)) (x_1 : (Int × (List (Int × Int))))  : ∀ (k : Nat) (x_129 : (List Int)) (x_130 : Int) (s : Nat → V), Facts [(1, (eL x_2)), (3, (.ref (.bx 3) 0 [] (.agg [(ji x_1.1), (Enc.enc (x_1.2 : List (Int × Int)))]))), (6, (.sl .nl (Enc.shp Int) 0 [])), (7, (eL x_129)), (8, (ji x_130))] s → s_l2Reach_l3 F x_2 x_1 k x_129 x_130 = some r → Run D σ (R179 r) (.run A179_1 [.lp A179_1, .bk 0, .sq A179_16]) s := by
  intro k
  induction k with
  | zero => intro x_129 x_130 s _ h; exact nomatch (h : (none : Option _) = some r)
  | succ k ih =>
    intro x_129 x_130 s hs h
    rw [s_l2Reach_l3] at h
    obtain ⟨h1, h3, h6, h7, h8⟩ := hs
    refine .seq (.seq (rg (gm h8 fun h13 => gm h1 fun h14 => gv (ji (x_2.length : Int)) (ev_len (xs := x_2) h14) fun h15 => ?_)))
    refine g2 13 15 (jb (decide (x_130 < (x_2.length : Int)))) h13 h15 fun h16 => ?_
    refine gq (.nsq (run_cond (t := decide (x_130 < (x_2.length : Int))) h16 h (fun h => ?_) (fun h => ?_)))
    · refine .skip (.nsq (.seq (.block (.seq (rg (g0 (ji 0) fun h9 => gq (.nsq (.block (.loop ?_)))))))))
      exact t_f179_l2 H x_2 x_1 x_130 (s_l2Reach_l3 F x_2 x_1 k) ih F x_129 0 _ ⟨h1, h3, h6, h7, h8, h9⟩ h
    refine .exit (.esq (.elp (.ebk (.nsq (.seq (rg (gm h7 fun h56 => gm h56 fun h6 => gq (.nsq (.ret ?_)))))))))
    have hr := Option.some.inj h
    subst hr
    exact rrA (res_tmp h6) (fin_ret1 (fin_enc (x := (x_129 : (List Int)))))
def s_l2Reach (F : Nat) (x_1 : (Int × (List (Int × Int)))) (x_2 : (List Int)) (x_3 : Int) : Option (List Int) :=
  s_l2Reach_l3 F x_2 x_1 F [x_3] 0
theorem t179 (H : H179 D σ F) (x_1 : (Int × (List (Int × Int)))) (x_2 : (List Int)) (x_3 : Int) (s : Nat → V) (hs : Facts [(0, (.agg [(ji x_1.1), (Enc.enc (x_1.2 : List (Int × Int)))])), (1, (eL x_2)), (2, (ji x_3))] s) (h : s_l2Reach F x_1 x_2 x_3 = some r) : Run D σ (R179 r) (.run A179 []) s := by
  unfold s_l2Reach at h
  obtain ⟨h0, h1, h2⟩ := hs
  refine .seq (run_reg ?_)
  refine e_clr ?_
  refine ez [(0, _), (1, _), (2, _), (3, _)] ⟨(keep_clear (pk := [3]) h0 rfl (map_agg (maps_cons mi (maps_cons me maps_nil)))), (keep_clear (pk := [3]) h1 rfl me), (keep_clear (pk := [3]) h2 rfl mi), (gone_clear (pk := [3]) (t := 3) rfl)⟩ ?_
  rintro s ⟨h0, h1, h2, h3⟩
  refine g_box (.agg [(ji x_1.1), (Enc.enc (x_1.2 : List (Int × Int)))]) (rd_of h0 rfl) h3 rfl ?_
  refine g0 (.sl .nl (Enc.shp Int) 0 []) fun h6 => ?_
  refine gq (.nsq (.seq (run_reg ?_)))
  refine e_clr ?_
  refine ez [(1, _), (2, _), (3, _), (6, _), (12, _)] ⟨(keep_clear (pk := [12]) h1 rfl me), (keep_clear (pk := [12]) h2 rfl mi), (keep_clear (pk := [12]) rfl rfl (map_bx rfl (map_agg (maps_cons mi (maps_cons me maps_nil))))), (keep_clear (pk := [12]) h6 rfl rfl), (gone_clear (pk := [12]) (t := 12) rfl)⟩ ?_
  rintro s ⟨h1, h2, h3, h6, h12⟩
  refine gm h2 fun h11 => g_litL [(11, (ji x_3))] [Enc.enc (x_3 : Int)] h11 rfl rfl h12 ?_
  refine gm (rfl : (_ : V) = (oI 12 [] (.of [x_3]))) fun h7 => ?_
  refine g_end ?_
  refine e_home (r := 12) (x := 7) (v := _) h7 rfl (fun s_3 hg_3 => ?_)
  refine e_frz (x := 7) (v := (oI 7 [] (.of [x_3]))) [(.at 7 [])] (by exact (hg_3 7 _ _ h7 (map_encO (r := 12) (p := []) rfl rfl))) toks_ownL (fun s_4 hg_4 => ?_)
  refine ez [(1, (eL x_2)), (3, (.ref (.bx 3) 0 [] (.agg [(ji x_1.1), (Enc.enc (x_1.2 : List (Int × Int)))]))), (6, (.sl .nl (Enc.shp Int) 0 [])), (7, (eL [x_3]))] ⟨(hg_4 1 (eL x_2) (eL x_2) (hg_3 1 _ _ h1 me) (Enc.frz_enc _ (x_2 : List Int))), (hg_4 3 (.ref (.bx 3) 0 [] (.agg [(ji x_1.1), (Enc.enc (x_1.2 : List (Int × Int)))])) (.ref (.bx 3) 0 [] (.agg [(ji x_1.1), (Enc.enc (x_1.2 : List (Int × Int)))])) (hg_3 3 _ _ h3 (map_bx rfl (map_agg (maps_cons mi (maps_cons me maps_nil))))) (frz_ref_ne rfl (frz_agg (frzs_cons rfl (frzs_cons (Enc.frz_enc _ (x_1.2 : List (Int × Int))) rfl))) rfl)), (hg_4 6 (.sl .nl (Enc.shp Int) 0 []) (.sl .nl (Enc.shp Int) 0 []) (hg_3 6 _ (.sl .nl (Enc.shp Int) 0 []) h6 rfl) rfl), (hg_4 7 (oI 7 [] (.of [x_3])) (eL [x_3]) (hg_3 7 _ _ h7 (map_encO (r := 12) (p := []) rfl rfl)) frz_own)⟩ ?_
  rintro s ⟨h1, h3, h6, h7⟩
  refine .nsq (.seq (.seq (rg (g0 (ji 0) fun h8 => gq (.nsq (.block (.loop ?_)))))))
  exact t_f179_l3 H x_2 x_1 F [x_3] 0 _ ⟨h1, h3, h6, h7, h8⟩ h
end
def e179 (F : Nat) : Ent := ent 179 (fun (x : ((Int × (List (Int × Int))) × (List Int) × Int × Unit)) => s_l2Reach F x.1 x.2.1 x.2.2.1) (fun (r : (List Int)) => (Enc.enc (r : (List Int)))) 0 true []
theorem p179 {F : Nat} {x0 : (Int × (List (Int × Int)))} {x1 : (List Int)} {x2 : Int} {r : (List Int)} (h : s_l2Reach F x0 x1 x2 = some r) : (e179 F).den [Enc.enc x0, Enc.enc x1, Enc.enc x2] = some (Enc.enc (r : (List Int))) := ent_put (x0, x1, x2, ()) h
theorem o179 {D : Den} {σ : Sig} {F : Nat} (hF : Fits2 Try.prog D σ) (H : H179 D σ F) : (e179 F).Ok Try.prog := by
  refine ok_of (f := 179) (show unk 179 = 179 from rfl) (fun args r h => ?_) ⟨Try.f179, Try.func179, rfl, rfl⟩
  obtain ⟨⟨x0, x1, x2, _⟩, y, rfl, hy, rfl⟩ := da_open h
  exact contract_run hF (by kernel_rfl) Try.func179 rfl c179 (show 3 ≤ Try.f179.ntmps by decide) (t179 H x0 x1 x2 _ ⟨rfl, rfl, rfl⟩ hy)
/- loop.example/g01109/spec.l6Spread -/
def A182_2 : AC := (.cond (.t 18) .skip (.exit 0))
def A182_4 : AC := (.cond (.t 24) (.reg [.clr [27, 28]] [(jm 25 7), (jm 26 9), (.mk (some 27) none false (.lit (.int .i64 (.ofNat 0)) 1 [(0, 0, (.t 26))])), (.mk (some 28) none false (.app .s (.t 25) (.t 27))), (jm 7 28)] [.home 28 7]) .skip)
def A182_5 : AC := (.reg [] [(jm 19 9), ((jv 20 (.bin .add (.t 19) (jn 1)))), (jm 9 20)] [])
def A182_3 : AC := (.seq (.block 1 (.seq (.reg [] [(jm 21 1), (jm 22 9), (.mk (some 23) none false (.call (.k (.fn 74 [] [])) [(.t 21), (.t 22)])), ((jv 24 (.un .not (.t 23))))] []) A182_4)) A182_5)
def A182_1 : AC := (.seq (.seq (.reg [] [(jm 15 9), ((jv 16 (.fld (.t 3) 0 0))), ((jv 17 (.load .s (.t 16)))), ((jv 18 (.bin .lss (.t 15) (.t 17))))] []) A182_2) A182_3)
def A182_9 : AC := (.cond (.t 32) .skip (.exit 2))
def A182_11 : AC := (.cond (.t 40) (.exit 3) .skip)
def A182_16 : AC := (.cond (.t 51) .skip (.exit 4))
def A182_18 : AC := (.reg [] [(jm 52 12), ((jv 53 (.bin .add (.t 52) (jn 1)))), (jm 12 53)] [])
def A182_17 : AC := (.seq (.block 5 (.reg [.frz 8] [(jm 54 8), (jm 55 11), (jm 56 12), ((jv 57 (.idx (.t 55) (.t 56) 1))), ((jv 58 (.load .s (.t 57)))), (.mk (some 59) none false (.call (.k (.fn 146 [] [])) [(.t 54), (.t 58)])), (jm 8 59)] [])) A182_18)
def A182_15 : AC := (.seq (.seq (.reg [] [(jm 48 12), (jm 49 11), ((jv 50 (.len (.t 49)))), ((jv 51 (.bin .lss (.t 48) (.t 50))))] []) A182_16) A182_17)
def A182_14 : AC := (.block 4 (.loop A182_15))
def A182_13 : AC := (.seq (.reg [] [((jv 12 (.mov (jn 0))))] []) A182_14)
def A182_12 : AC := (.seq (.reg [.frz 7] [((jv 41 (.load (.ag [.s, .p]) (.t 3)))), (jm 42 7), (jm 43 2), (jm 44 10), ((jv 45 (.idx (.t 43) (.t 44) 1))), ((jv 46 (.load .s (.t 45)))), (.mk (some 47) none false (.call (.k (.fn 179 [] [])) [(.t 41), (.t 42), (.t 46)])), (jm 11 47)] []) A182_13)
def A182_19 : AC := (.reg [] [(jm 33 10), ((jv 34 (.bin .add (.t 33) (jn 1)))), (jm 10 34)] [])
def A182_10 : AC := (.seq (.block 3 (.seq (.seq (.reg [] [(jm 35 1), (jm 36 2), (jm 37 10), ((jv 38 (.idx (.t 36) (.t 37) 1))), ((jv 39 (.load .s (.t 38)))), (.mk (some 40) none false (.call (.k (.fn 74 [] [])) [(.t 35), (.t 39)]))] []) A182_11) A182_12)) A182_19)
def A182_8 : AC := (.seq (.seq (.reg [] [(jm 29 10), (jm 30 2), ((jv 31 (.len (.t 30)))), ((jv 32 (.bin .lss (.t 29) (.t 31))))] []) A182_9) A182_10)
def A182_7 : AC := (.block 2 (.loop A182_8))
def A182_20 : AC := (.seq (.reg [] [(jm 60 8), (jm 6 60)] []) .ret)
def A182_6 : AC := (.seq (.seq (.reg [] [((jv 10 (.mov (jn 0))))] [.frz 7, .frz 8]) A182_7) A182_20)
def A182_23 : AC := (.block 0 (.loop A182_1))
def A182_22 : AC := (.seq (.seq (.reg [] [((jv 9 (.mov (jn 0))))] []) A182_23) A182_6)
def A182_21 : AC := (.seq (.reg [.clr [13, 14]] [(.mk (some 13) none false (.lit (.int .i64 (.ofNat 0)) 0 [])), (.mk (some 14) none false (.lit (.int .i64 (.ofNat 0)) 0 [])), (jm 7 13), (jm 8 14)] [.home 13 7, .home 14 8]) A182_22)
def A182 : AC := (.seq (.reg [.clr [3]] [(.mk (some 3) none false (.box (.t 0))), ((jv 6 (.mov (.k (.sl .nl .s 0 [])))))] []) A182_21)
def an182 : List An := [{ id := 0, pre := [.clr [3]], ep := [], lin := [], sp := [] }, { id := 1, pre := [.clr [13, 14]], ep := [.home 13 7, .home 14 8], lin := [], sp := [] }, { id := 6, pre := [.clr [27, 28]], ep := [.home 28 7], lin := [], sp := [] }, { id := 7, pre := [], ep := [.frz 7, .frz 8], lin := [], sp := [] }, { id := 11, pre := [.frz 7], ep := [], lin := [], sp := [] }, { id := 15, pre := [.frz 8], ep := [], lin := [], sp := [] }]
theorem c182 : cC Try.prog Try.f182.ntmps an182 (Try.f182.body.getD .skip) = some A182 := by kernel_rfl
structure H182 (D : Den) (σ : Sig) (F : Nat) : Prop where
  c74 : ∀ (x0 : (List Int)) (x1 : Int) r, s_l1Has F x0 x1 = some r → D 74 [Enc.enc x0, Enc.enc x1] = some (Enc.enc (r : Bool))
  g74 : σ 74 = some (0, false)
  c179 : ∀ (x0 : (Int × (List (Int × Int)))) (x1 : (List Int)) (x2 : Int) r, s_l2Reach F x0 x1 x2 = some r → D 179 [Enc.enc x0, Enc.enc x1, Enc.enc x2] = some (Enc.enc (r : (List Int)))
  g179 : σ 179 = some (0, true)
  c146 : ∀ (x0 : (List Int)) (x1 : Int) r, s_l1Put F x0 x1 = some r → D 146 [Enc.enc x0, Enc.enc x1] = some (Enc.enc (r : (List Int)))
  g146 : σ 146 = some (0, true)
abbrev R182 (r : (List Int)) : (Nat → V) → Prop := RR Try.prog [.tmp 6] 0 true (Enc.enc (r : (List Int)))
section
variable {D : Den} {σ : Sig} {F : Nat} {r : (List Int)}
def s_l6Spread_j1 (F : Nat) (x_2 : (List Int)) (x_3 : (List Int)) (x_1 : (Int × (List (Int × Int)))) (x_9 : Int) (c1 : (List Int) → Int → Option (List Int)) (x_16 : (List Int)) : Option (List Int) :=
  c1 x_16 (w64 (x_9 + 1))
theorem t_f182_j1 (H : H182 D σ F) (x_2 : (List Int)) (x_3 : (List Int)) (x_1 : (Int × (List (Int × Int)))) (x_9 : Int) (c1 : (List Int) → Int → Option (List Int)) (Hc1 : ∀ (x_8 : (List Int)) (x_9 : Int) (s : Nat → V), Facts [(1, (eL x_2)), (2, (eL x_3)), (3, (.ref (.bx 3) 0 [] (.agg [(ji x_1.1), (Enc.enc (x_1.2 : List (Int × Int)))]))), (6, (.sl .nl (Enc.shp Int) 0 [])), (7, (oI 7 [] (.of x_8))), (8, (oI 8 [] (.of []))), (9, (ji x_9))] s → c1 x_8 x_9 = some r → Run D σ (R182 r) (.run A182_1 [.lp A182_1, .bk 0, .sq A182_6]) s) (x_16 : (List Int)) (s : Nat → V) (hs : Facts [(1, (eL x_2)), (2, (eL x_3)), (3, (.ref (.bx 3) 0 [] (.agg [(ji x_1.1), (Enc.enc (x_1.2 : List (Int × Int)))]))), (6, (.sl .nl (Enc.shp Int) 0 [])), (7, (oI 7 [] (.of x_16))), (8, (oI 8 [] (.of []))), (9, (ji x_9))] s) (h : s_l6Spread_j1 F x_2 x_3 x_1 x_9 c1 x_16 = some r) : Run D σ (R182 r) (.nrm [.bk 1, .sq A182_5, .lp A182_1, .bk 0, .sq A182_6]) s := by
  unfold s_l6Spread_j1 at h
  obtain ⟨h1, h2, h3, h6, h7, h8, h9⟩ := hs
  refine .nbk (.nsq (rg (gm h9 fun h19 => g1 19 (ji (w64 (x_9 + 1))) h19 fun h20 => ?_)))
  refine gm h20 fun h9 => gq (.nlp ?_)
  exact Hc1 x_16 (w64 (x_9 + 1)) _ ⟨h1, h2, h3, h6, h7, h8, h9⟩ h
def s_l6Spread_l1 (F : Nat) (x_2 : (List Int)) (x_3 : (List Int)) (x_1 : (Int × (List (Int × Int)))) (x_8 : (List Int)) (x_31 : Int) (r_47 : (List Int)) (c2 : (List Int) → Int → Option (List Int)) : Nat → (List Int) → Int → Option (List Int)
  | 0, _, _ => none
  | k + 1, x_50, x_51 =>
    bif decide (x_51 < (r_47.length : Int)) then
      (idx r_47 x_51).bind fun e_54 =>
      (s_l1Put F x_50 e_54).bind fun r_55 =>
      (s_l6Spread_l1 F x_2 x_3 x_1 x_8 x_31 r_47 c2 k) r_55 (w64 (x_51 + 1))
    else
      c2 x_50 (w64 (x_31 + 1))
theorem t_f182_l1 (H : H182 D σ F) (x_2 : (List Int)) (x_3 : (List Int)) (x_1 : (Int × (List (Int × Int)))) (x_8 : (List Int)) (x_31 : Int) (r_47 : (List Int)) (c2 : (List Int) → Int → Option (List Int)) (Hc2 : ∀ (x_30 : (List Int)) (x_31 : Int) (s : Nat → V), Facts [(1, (eL x_2)), (2, (eL x_3)), (3, (.ref (.bx 3) 0 [] (.agg [(ji x_1.1), (Enc.enc (x_1.2 : List (Int × Int)))]))), (6, (.sl .nl (Enc.shp Int) 0 [])), (7, (eL x_8)), (8, (eL x_30)), (10, (ji x_31))] s → c2 x_30 x_31 = some r → Run D σ (R182 r) (.run A182_8 [.lp A182_8, .bk 2, .sq A182_20]) s) : ∀ (k : Nat) (x_50 : (List Int)) (x_51 : Int) (s : Nat → V), Facts [(1, (eL x_2)), (2, (eL x_3)), (3, (.ref (.bx 3) 0 [] (.agg [(ji x_1.1), (Enc.enc (x_1.2 : List (Int × Int)))]))), (6, (.sl .nl (Enc.shp Int) 0 [])), (7, (eL x_8)), (8, (eL x_50)), (10, (ji x_31)), (11, (eL r_47)), (12, (ji x_51))] s → s_l6Spread_l1 F x_2 x_3 x_1 x_8 x_31 r_47 c2 k x_50 x_51 = some r → Run D σ (R182 r) (.run A182_15 [.lp A182_15, .bk 4, .bk 3, .sq A182_19, .lp A182_8, .bk 2, .sq A182_20]) s := by
  intro k
  induction k with
  | zero => intro x_50 x_51 s _ h; exact nomatch (h : (none : Option _) = some r)
  | succ k ih =>
    intro x_50 x_51 s hs h
    rw [s_l6Spread_l1] at h
    obtain ⟨h1, h2, h3, h6, h7, h8, h10, h11, h12⟩ := hs
    refine .seq (.seq (rg (gm h12 fun h48 => gm h11 fun h49 => gv (ji (r_47.length : Int)) (ev_len (xs := r_47) h49) fun h50 => ?_)))
    refine g2 48 50 (jb (decide (x_51 < (r_47.length : Int)))) h48 h50 fun h51 => ?_
    refine gq (.nsq (run_cond (t := decide (x_51 < (r_47.length : Int))) h51 h (fun h => ?_) (fun h => ?_)))
    · refine .skip (.nsq (.seq (.block (run_reg ?_))))
      refine e_frz (x := 8) (v := (eL x_50)) [] (by exact h8) (Enc.toks_enc (x_50 : List Int)) (fun s_36 hg_36 => ?_)
      refine ez [(1, _), (2, _), (3, _), (6, _), (7, _), (8, _), (10, _), (11, _), (12, _)] ⟨(hg_36 1 (eL x_2) (eL x_2) h1 (frz_none _)), (hg_36 2 (eL x_3) (eL x_3) h2 (frz_none _)), (hg_36 3 (.ref (.bx 3) 0 [] (.agg [(ji x_1.1), (Enc.enc (x_1.2 : List (Int × Int)))])) (.ref (.bx 3) 0 [] (.agg [(ji x_1.1), (Enc.enc (x_1.2 : List (Int × Int)))])) h3 (frz_none _)), (hg_36 6 (.sl .nl (Enc.shp Int) 0 []) (.sl .nl (Enc.shp Int) 0 []) h6 (frz_none _)), (hg_36 7 (eL x_8) (eL x_8) h7 (frz_none _)), (hg_36 8 (eL x_50) (eL x_50) h8 (frz_none _)), (hg_36 10 (ji x_31) (ji x_31) h10 (frz_none _)), (hg_36 11 (eL r_47) (eL r_47) h11 (frz_none _)), (hg_36 12 (ji x_51) (ji x_51) h12 (frz_none _))⟩ ?_
      rintro s ⟨h1, h2, h3, h6, h7, h8, h10, h11, h12⟩
      refine gm h8 fun h54 => gm h11 fun h55 => gm h12 fun h56 => ?_
      obtain ⟨e_54, E_e_54, h⟩ := bind_some h
      refine gv (.ref .sh 0 [] (ji e_54)) (ev_idx (t := .sh) (lo := 0) (xs := r_47) h55 h56 E_e_54 rfl rfl) fun h57 => ?_
      refine g1 57 (ji e_54) h57 fun h58 => ?_
      obtain ⟨r_55, E_r_55, h⟩ := bind_some h
      refine g_call (m := 0) (al := true) (r := (Enc.enc (r_55 : (List Int)))) [Enc.enc (x_50 : (List Int)), Enc.enc (e_54 : Int)] (ta_cons (v := (eL x_50)) h54 rfl (Enc.erase_enc (x_50 : (List Int))) (ta_cons (v := (ji e_54)) h58 rfl rfl ta_nil)) (H.c146 _ _ _ E_r_55) H.g146 (hal_of (ht_cons (v := (eL x_50)) h54 rfl rfl (ht_cons (v := (ji e_54)) h58 rfl rfl ht_nil))) rfl rfl rfl ?_
      refine gm (rfl : (_ : V) = (eL r_55)) fun h8 => ?_
      refine gq (.nbk (.nsq (rg (gm h12 fun h52 => g1 52 (ji (w64 (x_51 + 1))) h52 fun h53 => ?_))))
      refine gm h53 fun h12 => gz [(1, _), (2, _), (3, _), (6, _), (7, _), (8, _), (10, _), (11, _), (12, _)] ⟨h1, h2, h3, h6, h7, h8, h10, h11, h12⟩ ?_
      rintro s ⟨h1, h2, h3, h6, h7, h8, h10, h11, h12⟩
      refine .nlp ?_
      exact ih r_55 (w64 (x_51 + 1)) _ ⟨h1, h2, h3, h6, h7, h8, h10, h11, h12⟩ h
    refine .exit (.esq (.elp (.ebk (.nbk (.nsq (rg (gm h10 fun h33 => g1 33 (ji (w64 (x_31 + 1))) h33 fun h34 => ?_)))))))
    refine gm h34 fun h10 => gq (.nlp ?_)
    exact Hc2 x_50 (w64 (x_31 + 1)) _ ⟨h1, h2, h3, h6, h7, h8, h10⟩ h
def s_l6Spread_l2 (F : Nat) (x_2 : (List Int)) (x_3 : (List Int)) (x_1 : (Int × (List (Int × Int)))) (x_8 : (List Int))  : Nat → (List Int) → Int → Option (List Int)
  | 0, _, _ => none
  | k + 1, x_30, x_31 =>
    bif decide (x_31 < (x_3.length : Int)) then
      (idx x_3 x_31).bind fun e_44 =>
      (s_l1Has F x_2 e_44).bind fun r_45 =>
      bif r_45 then
        (s_l6Spread_l2 F x_2 x_3 x_1 x_8 k) x_30 (w64 (x_31 + 1))
      else
        (idx x_3 x_31).bind fun e_46 =>
        (s_l2Reach F x_1 x_8 e_46).bind fun r_47 =>
        s_l6Spread_l1 F x_2 x_3 x_1 x_8 x_31 r_47 (s_l6Spread_l2 F x_2 x_3 x_1 x_8 k) F x_30 0
    else
      some x_30
theorem t_f182_l2 (H : H182 D σ F) (x_2 : (List Int)) (x_3 : (List Int)) (x_1 : (Int × (List (Int × Int)))) (x_8 : (List Int))  : ∀ (k : Nat) (x_30 : (List Int)) (x_31 : Int) (s : Nat → V), Facts [(1, (eL x_2)), (2, (eL x_3)), (3, (.ref (.bx 3) 0 [] (.agg [(ji x_1.1), (Enc.enc (x_1.2 : List (Int × Int)))]))), (6, (.sl .nl (Enc.shp Int) 0 [])), (7, (eL x_8)), (8, (eL x_30)), (10, (ji x_31))] s → s_l6Spread_l2 F x_2 x_3 x_1 x_8 k x_30 x_31 = some r → Run D σ (R182 r) (.run A182_8 [.lp A182_8, .bk 2, .sq A182_20]) s := by
  intro k
  induction k with
  | zero => intro x_30 x_31 s _ h; exact nomatch (h : (none : Option _) = some r)
  | succ k ih =>
    intro x_30 x_31 s hs h
    rw [s_l6Spread_l2] at h
    obtain ⟨h1, h2, h3, h6, h7, h8, h10⟩ := hs
    refine .seq (.seq (rg (gm h10 fun h29 => gm h2 fun h30 => gv (ji (x_3.length : Int)) (ev_len (xs := x_3) h30) fun h31 => ?_)))
    refine g2 29 31 (jb (decide (x_31 < (x_3.length : Int)))) h29 h31 fun h32 => ?_
    refine gq (.nsq (run_cond (t := decide (x_31 < (x_3.length : Int))) h32 h (fun h => ?_) (fun h => ?_)))
    · refine .skip (.nsq (.seq (.block (.seq (.seq (rg (gm h1 fun h35 => gm h2 fun h36 => gm h10 fun h37 => ?_)))))))
      obtain ⟨e_44, E_e_44, h⟩ := bind_some h
      refine gv (.ref .sh 0 [] (ji e_44)) (ev_idx (t := .sh) (lo := 0) (xs := x_3) h36 h37 E_e_44 rfl rfl) fun h38 => ?_
      refine g1 38 (ji e_44) h38 fun h39 => ?_
      obtain ⟨r_45, E_r_45, h⟩ := bind_some h
      refine g_call (m := 0) (al := false) (r := (Enc.enc (r_45 : Bool))) [Enc.enc (x_2 : (List Int)), Enc.enc (e_44 : Int)] (ta_cons (v := (eL x_2)) h35 rfl (Enc.erase_enc (x_2 : (List Int))) (ta_cons (v := (ji e_44)) h39 rfl rfl ta_nil)) (H.c74 _ _ _ E_r_45) H.g74 rfl rfl rfl rfl ?_
      refine gq (.nsq (run_cond (t := r_45) rfl h (fun h => ?_) (fun h => ?_)))
      · refine .exit (.esq (.ebk (.nsq (rg (gm h10 fun h33 => g1 33 (ji (w64 (x_31 + 1))) h33 fun h34 => ?_)))))
        refine gm h34 fun h10 => gq (.nlp ?_)
        exact ih x_30 (w64 (x_31 + 1)) _ ⟨h1, h2, h3, h6, h7, h8, h10⟩ h
      refine .skip (.nsq (.seq (run_reg ?_)))
      refine e_frz (x := 7) (v := (eL x_8)) [] (by exact h7) (Enc.toks_enc (x_8 : List Int)) (fun s_33 hg_33 => ?_)
      refine ez [(1, _), (2, _), (3, _), (6, _), (7, _), (8, _), (10, _)] ⟨(hg_33 1 (eL x_2) (eL x_2) h1 (frz_none _)), (hg_33 2 (eL x_3) (eL x_3) h2 (frz_none _)), (hg_33 3 (.ref (.bx 3) 0 [] (.agg [(ji x_1.1), (Enc.enc (x_1.2 : List (Int × Int)))])) (.ref (.bx 3) 0 [] (.agg [(ji x_1.1), (Enc.enc (x_1.2 : List (Int × Int)))])) h3 (frz_none _)), (hg_33 6 (.sl .nl (Enc.shp Int) 0 []) (.sl .nl (Enc.shp Int) 0 []) h6 (frz_none _)), (hg_33 7 (eL x_8) (eL x_8) h7 (frz_none _)), (hg_33 8 (eL x_30) (eL x_30) h8 (frz_none _)), (hg_33 10 (ji x_31) (ji x_31) h10 (frz_none _))⟩ ?_
      rintro s ⟨h1, h2, h3, h6, h7, h8, h10⟩
      refine g1 3 (.agg [(ji x_1.1), (Enc.enc (x_1.2 : List (Int × Int)))]) h3 fun h41 => ?_
      refine gm h7 fun h42 => gm h2 fun h43 => gm h10 fun h44 => ?_
      obtain ⟨e_46, E_e_46, h⟩ := bind_some h
      refine gv (.ref .sh 0 [] (ji e_46)) (ev_idx (t := .sh) (lo := 0) (xs := x_3) h43 h44 E_e_46 rfl rfl) fun h45 => ?_
      refine g1 45 (ji e_46) h45 fun h46 => ?_
      obtain ⟨r_47, E_r_47, h⟩ := bind_some h
      refine g_call (m := 0) (al := true) (r := (Enc.enc (r_47 : (List Int)))) [Enc.enc (x_1 : (Int × (List (Int × Int)))), Enc.enc (x_8 : (List Int)), Enc.enc (e_46 : Int)] (ta_cons (v := (.agg [(ji x_1.1), (Enc.enc (x_1.2 : List (Int × Int)))])) h41 rfl (Enc.erase_enc (x_1 : (Int × (List (Int × Int))))) (ta_cons (v := (eL x_8)) h42 rfl (Enc.erase_enc (x_8 : (List Int))) (ta_cons (v := (ji e_46)) h46 rfl rfl ta_nil))) (H.c179 _ _ _ _ E_r_47) H.g179 (hal_of (ht_cons (v := (.agg [(ji x_1.1), (Enc.enc (x_1.2 : List (Int × Int)))])) h41 rfl rfl (ht_cons (v := (eL x_8)) h42 rfl rfl (ht_cons (v := (ji e_46)) h46 rfl rfl ht_nil)))) rfl rfl rfl ?_
      refine gm (rfl : (_ : V) = (eL r_47)) fun h11 => ?_
      refine gq (.nsq (.seq (rg (g0 (ji 0) fun h12 => gq (.nsq (.block (.loop ?_)))))))
      exact t_f182_l1 H x_2 x_3 x_1 x_8 x_31 r_47 (s_l6Spread_l2 F x_2 x_3 x_1 x_8 k) ih F x_30 0 _ ⟨h1, h2, h3, h6, h7, h8, h10, h11, h12⟩ h
    refine .exit (.esq (.elp (.ebk (.nsq (.seq (rg (gm h8 fun h60 => gm h60 fun h6 => gq (.nsq (.ret ?_)))))))))
    have hr := Option.some.inj h
    subst hr
    exact rrA (res_tmp h6) (fin_ret1 (fin_enc (x := (x_30 : (List Int)))))
def s_l6Spread_l3 (F : Nat) (x_2 : (List Int)) (x_3 : (List Int)) (x_1 : (Int × (List (Int × Int))))  : Nat → (List Int) → Int → Option (List Int)
  | 0, _, _ => none
  | k + 1, x_8, x_9 =>
    bif decide (x_9 < x_1.1) then
      (s_l1Has F x_2 x_9).bind fun r_14 =>
      bif (!r_14) then
        (appL x_8 [x_9]).bind fun ap_17 =>
        s_l6Spread_j1 F x_2 x_3 x_1 x_9 (s_l6Spread_l3 F x_2 x_3 x_1 k) ap_17
      else
        s_l6Spread_j1 F x_2 x_3 x_1 x_9 (s_l6Spread_l3 F x_2 x_3 x_1 k) x_8
    else
      s_l6Spread_l2 F x_2 x_3 x_1 x_8 F [] 0
theorem t_f182_l3 (H : H182 D σ F) (x_2 : (List Int)) (x_3 : (List Int)) (x_1 : (Int × (List (Int × Int))))  : ∀ (k : Nat) (x_8 : (List Int)) (x_9 : Int) (s : Nat → V), Facts [(1, (eL x_2)), (2, (eL x_3)), (3, (.ref (.bx 3) 0 [] (.agg [(ji x_1.1), (Enc.enc (x_1.2 : List (Int × Int)))]))), (6, (.sl .nl (Enc.shp Int) 0 [])), (7, (oI 7 [] (.of x_8))), (8, (oI 8 [] (.of []))), (9, (ji x_9))] s → s_l6Spread_l3 F x_2 x_3 x_1 k x_8 x_9 = some r → Run D σ (R182 r) (.run A182_1 [.lp A182_1, .bk 0, .sq A182_6]) s := by
  intro k
  induction k with
  | zero => intro x_8 x_9 s _ h; exact nomatch (h : (none : Option _) = some r)
  | succ k ih =>
    intro x_8 x_9 s hs h
    rw [s_l6Spread_l3] at h
    obtain ⟨h1, h2, h3, h6, h7, h8, h9⟩ := hs
    refine .seq (.seq (rg (gm h9 fun h15 => g1 3 (.ref (.bx 3) 0 [0] (ji x_1.1)) h3 fun h16 => ?_)))
    refine g1 16 (ji x_1.1) h16 fun h17 => ?_
    refine g2 15 17 (jb (decide (x_9 < x_1.1))) h15 h17 fun h18 => ?_
    refine gq (.nsq (run_cond (t := decide (x_9 < x_1.1)) h18 h (fun h => ?_) (fun h => ?_)))
    · refine .skip (.nsq (.seq (.block (.seq (rg (gm h1 fun h21 => gm h9 fun h22 => ?_))))))
      obtain ⟨r_14, E_r_14, h⟩ := bind_some h
      refine g_call (m := 0) (al := false) (r := (Enc.enc (r_14 : Bool))) [Enc.enc (x_2 : (List Int)), Enc.enc (x_9 : Int)] (ta_cons (v := (eL x_2)) h21 rfl (Enc.erase_enc (x_2 : (List Int))) (ta_cons (v := (ji x_9)) h22 rfl rfl ta_nil)) (H.c74 _ _ _ E_r_14) H.g74 rfl rfl rfl rfl ?_
      refine g1 23 (jb (!r_14)) (rfl : (_ : V) = (jb r_14)) fun h24 => ?_
      refine gq (.nsq (run_cond (t := (!r_14)) h24 h (fun h => ?_) (fun h => ?_)))
      · refine run_reg ?_
        refine e_clr ?_
        refine ez [(1, _), (2, _), (3, _), (6, _), (7, _), (8, _), (9, _), (27, _), (28, _)] ⟨(keep_clear (pk := [27, 28]) h1 rfl me), (keep_clear (pk := [27, 28]) h2 rfl me), (keep_clear (pk := [27, 28]) h3 rfl (map_bx rfl (map_agg (maps_cons mi (maps_cons me maps_nil))))), (keep_clear (pk := [27, 28]) h6 rfl rfl), (keep_clear (pk := [27, 28]) h7 rfl (map_encO (r := 7) (p := []) rfl rfl)), (keep_clear (pk := [27, 28]) h8 rfl (map_encO (r := 8) (p := []) rfl rfl)), (keep_clear (pk := [27, 28]) h9 rfl mi), (gone_clear (pk := [27, 28]) (t := 27) rfl), (gone_clear (pk := [27, 28]) (t := 28) rfl)⟩ ?_
        rintro s ⟨h1, h2, h3, h6, h7, h8, h9, h27, h28⟩
        refine gm h7 fun h25 => gm h9 fun h26 => g_litL [(26, (ji x_9))] [Enc.enc (x_9 : Int)] h26 rfl rfl h27 ?_
        obtain ⟨ap_17, E_ap_17, h⟩ := bind_some h
        refine g_app (q := 7) (p := []) (o := (.of (x_8 : List Int))) (ys := ([x_9] : List Int)) (t2 := (.at 27 [])) (lo2 := 0) h25 rfl rfl h28 (appN_L (o := (.of (x_8 : List Int))) E_ap_17 trivial) (fun s_21 ha_21 => ?_)
        refine gm (rfl : (_ : V) = (oI 28 [] (.of ap_17))) fun h7 => ?_
        refine g_end ?_
        refine e_home (r := 28) (x := 7) (v := _) h7 rfl (fun s_22 hg_22 => ?_)
        refine ez [(1, (eL x_2)), (2, (eL x_3)), (3, (.ref (.bx 3) 0 [] (.agg [(ji x_1.1), (Enc.enc (x_1.2 : List (Int × Int)))]))), (6, (.sl .nl (Enc.shp Int) 0 [])), (7, (oI 7 [] (.of ap_17))), (8, (oI 8 [] (.of []))), (9, (ji x_9))] ⟨(hg_22 1 _ _ (show s_21 1 = (eL x_2) from keep_app ha_21 h1 me) me), (hg_22 2 _ _ (show s_21 2 = (eL x_3) from keep_app ha_21 h2 me) me), (hg_22 3 _ _ (show s_21 3 = (.ref (.bx 3) 0 [] (.agg [(ji x_1.1), (Enc.enc (x_1.2 : List (Int × Int)))])) from keep_app ha_21 h3 (map_bx rfl (map_agg (maps_cons mi (maps_cons me maps_nil))))) (map_bx rfl (map_agg (maps_cons mi (maps_cons me maps_nil))))), (hg_22 6 _ (.sl .nl (Enc.shp Int) 0 []) (show s_21 6 = (.sl .nl (Enc.shp Int) 0 []) from keep_app ha_21 h6 rfl) rfl), (hg_22 7 _ _ h7 (map_encO (r := 28) (p := []) rfl rfl)), (hg_22 8 _ _ (show s_21 8 = (oI 8 [] (.of [])) from keep_app ha_21 h8 (map_encO (r := 8) (p := []) rfl rfl)) (map_encO (r := 8) (p := []) rfl rfl)), (hg_22 9 _ _ (show s_21 9 = (ji x_9) from keep_app ha_21 h9 mi) mi)⟩ ?_
        rintro s ⟨h1, h2, h3, h6, h7, h8, h9⟩
        exact t_f182_j1 H x_2 x_3 x_1 x_9 (s_l6Spread_l3 F x_2 x_3 x_1 k) ih ap_17 _ ⟨h1, h2, h3, h6, h7, h8, h9⟩ h
      refine .skip ?_
      exact t_f182_j1 H x_2 x_3 x_1 x_9 (s_l6Spread_l3 F x_2 x_3 x_1 k) ih x_8 _ ⟨h1, h2, h3, h6, h7, h8, h9⟩ h
    refine .exit (.esq (.elp (.ebk (.nsq (.seq (.seq (rg (g0 (ji 0) fun h10 => g_end ?_))))))))
    refine e_frz (x := 7) (v := (oI 7 [] (.of x_8))) [(.at 7 [])] (by exact h7) toks_ownL (fun s_23 hg_23 => ?_)
    refine e_frz (x := 8) (v := (oI 8 [] (.of []))) [(.at 8 [])] (by exact (hg_23 8 (oI 8 [] (.of [])) (oI 8 [] (.of [])) h8 (frz_own_ne rfl rfl))) toks_ownL (fun s_24 hg_24 => ?_)
    refine ez [(1, (eL x_2)), (2, (eL x_3)), (3, (.ref (.bx 3) 0 [] (.agg [(ji x_1.1), (Enc.enc (x_1.2 : List (Int × Int)))]))), (6, (.sl .nl (Enc.shp Int) 0 [])), (7, (eL x_8)), (8, (eL [])), (10, (ji 0))] ⟨(hg_24 1 (eL x_2) (eL x_2) (hg_23 1 (eL x_2) (eL x_2) h1 (Enc.frz_enc _ (x_2 : List Int))) (Enc.frz_enc _ (x_2 : List Int))), (hg_24 2 (eL x_3) (eL x_3) (hg_23 2 (eL x_3) (eL x_3) h2 (Enc.frz_enc _ (x_3 : List Int))) (Enc.frz_enc _ (x_3 : List Int))), (hg_24 3 (.ref (.bx 3) 0 [] (.agg [(ji x_1.1), (Enc.enc (x_1.2 : List (Int × Int)))])) (.ref (.bx 3) 0 [] (.agg [(ji x_1.1), (Enc.enc (x_1.2 : List (Int × Int)))])) (hg_23 3 (.ref (.bx 3) 0 [] (.agg [(ji x_1.1), (Enc.enc (x_1.2 : List (Int × Int)))])) (.ref (.bx 3) 0 [] (.agg [(ji x_1.1), (Enc.enc (x_1.2 : List (Int × Int)))])) h3 (frz_ref_ne rfl (frz_agg (frzs_cons rfl (frzs_cons (Enc.frz_enc _ (x_1.2 : List (Int × Int))) rfl))) rfl)) (frz_ref_ne rfl (frz_agg (frzs_cons rfl (frzs_cons (Enc.frz_enc _ (x_1.2 : List (Int × Int))) rfl))) rfl)), (hg_24 6 (.sl .nl (Enc.shp Int) 0 []) (.sl .nl (Enc.shp Int) 0 []) (hg_23 6 (.sl .nl (Enc.shp Int) 0 []) (.sl .nl (Enc.shp Int) 0 []) h6 rfl) rfl), (hg_24 7 (eL x_8) (eL x_8) (hg_23 7 (oI 7 [] (.of x_8)) (eL x_8) h7 frz_own) (Enc.frz_enc _ (x_8 : List Int))), (hg_24 8 (oI 8 [] (.of [])) (eL []) (hg_23 8 (oI 8 [] (.of [])) (oI 8 [] (.of [])) h8 (frz_own_ne rfl rfl)) frz_own), (hg_24 10 (ji 0) (ji 0) (hg_23 10 (ji 0) (ji 0) h10 rfl) rfl)⟩ ?_
    rintro s ⟨h1, h2, h3, h6, h7, h8, h10⟩
    refine .nsq (.block (.loop ?_))
    exact t_f182_l2 H x_2 x_3 x_1 x_8 F [] 0 _ ⟨h1, h2, h3, h6, h7, h8, h10⟩ h
def s_l6Spread (F : Nat) (x_1 : (Int × (List (Int × Int)))) (x_2 : (List Int)) (x_3 : (List Int)) : Option (List Int) :=
  s_l6Spread_l3 F x_2 x_3 x_1 F [] 0
theorem t182 (H : H182 D σ F) (x_1 : (Int × (List (Int × Int)))) (x_2 : (List Int)) (x_3 : (List Int)) (s : Nat → V) (hs : Facts [(0, (.agg [(ji x_1.1), (Enc.enc (x_1.2 : List (Int × Int)))])), (1, (eL x_2)), (2, (eL x_3))] s) (h : s_l6Spread F x_1 x_2 x_3 = some r) : Run D σ (R182 r) (.run A182 []) s := by
  unfold s_l6Spread at h
  obtain ⟨h0, h1, h2⟩ := hs
  refine .seq (run_reg ?_)
  refine e_clr ?_
  refine ez [(0, _), (1, _), (2, _), (3, _)] ⟨(keep_clear (pk := [3]) h0 rfl (map_agg (maps_cons mi (maps_cons me maps_nil)))), (keep_clear (pk := [3]) h1 rfl me), (keep_clear (pk := [3]) h2 rfl me), (gone_clear (pk := [3]) (t := 3) rfl)⟩ ?_
  rintro s ⟨h0, h1, h2, h3⟩
  refine g_box (.agg [(ji x_1.1), (Enc.enc (x_1.2 : List (Int × Int)))]) (rd_of h0 rfl) h3 rfl ?_
  refine g0 (.sl .nl (Enc.shp Int) 0 []) fun h6 => ?_
  refine gq (.nsq (.seq (run_reg ?_)))
  refine e_clr ?_
  refine ez [(1, _), (2, _), (3, _), (6, _), (13, _), (14, _)] ⟨(keep_clear (pk := [13, 14]) h1 rfl me), (keep_clear (pk := [13, 14]) h2 rfl me), (keep_clear (pk := [13, 14]) rfl rfl (map_bx rfl (map_agg (maps_cons mi (maps_cons me maps_nil))))), (keep_clear (pk := [13, 14]) h6 rfl rfl), (gone_clear (pk := [13, 14]) (t := 13) rfl), (gone_clear (pk := [13, 14]) (t := 14) rfl)⟩ ?_
  rintro s ⟨h1, h2, h3, h6, h13, h14⟩
  refine g_litL [] [] trivial rfl rfl h13 ?_
  refine g_litL [] [] trivial rfl rfl h14 ?_
  refine gm (rfl : (_ : V) = (oI 13 [] (.of []))) fun h7 => ?_
  refine gm (rfl : (_ : V) = (oI 14 [] (.of []))) fun h8 => ?_
  refine g_end ?_
  refine e_home (r := 13) (x := 7) (v := _) h7 rfl (fun s_3 hg_3 => ?_)
  refine e_home (r := 14) (x := 8) (v := _) (by exact (hg_3 8 _ _ h8 (map_encO (r := 14) (p := []) rfl rfl))) rfl (fun s_4 hg_4 => ?_)
  refine ez [(1, (eL x_2)), (2, (eL x_3)), (3, (.ref (.bx 3) 0 [] (.agg [(ji x_1.1), (Enc.enc (x_1.2 : List (Int × Int)))]))), (6, (.sl .nl (Enc.shp Int) 0 [])), (7, (oI 7 [] (.of []))), (8, (oI 8 [] (.of [])))] ⟨(hg_4 1 _ _ (hg_3 1 _ _ h1 me) me), (hg_4 2 _ _ (hg_3 2 _ _ h2 me) me), (hg_4 3 _ _ (hg_3 3 _ _ h3 (map_bx rfl (map_agg (maps_cons mi (maps_cons me maps_nil))))) (map_bx rfl (map_agg (maps_cons mi (maps_cons me maps_nil))))), (hg_4 6 _ (.sl .nl (Enc.shp Int) 0 []) (hg_3 6 _ (.sl .nl (Enc.shp Int) 0 []) h6 rfl) rfl), (hg_4 7 _ _ (hg_3 7 _ _ h7 (map_encO (r := 13) (p := []) rfl rfl)) (map_encO (r := 7) (p := []) rfl rfl)), (hg_4 8 _ _ (hg_3 8 _ _ h8 (map_encO (r := 14) (p := []) rfl rfl)) (map_encO (r := 14) (p := []) rfl rfl))⟩ ?_
  rintro s ⟨h1, h2, h3, h6, h7, h8⟩
  refine .nsq (.seq (.seq (rg (g0 (ji 0) fun h9 => gq (.nsq (.block (.loop ?_)))))))
  exact t_f182_l3 H x_2 x_3 x_1 F [] 0 _ ⟨h1, h2, h3, h6, h7, h8, h9⟩ h
end
def e182 (F : Nat) : Ent := ent 182 (fun (x : ((Int × (List (Int × Int))) × (List Int) × (List Int) × Unit)) => s_l6Spread F x.1 x.2.1 x.2.2.1) (fun (r : (List Int)) => (Enc.enc (r : (List Int)))) 0 true []
theorem p182 {F : Nat} {x0 : (Int × (List (Int × Int)))} {x1 : (List Int)} {x2 : (List Int)} {r : (List Int)} (h : s_l6Spread F x0 x1 x2 = some r) : (e182 F).den [Enc.enc x0, Enc.enc x1, Enc.enc x2] = some (Enc.enc (r : (List Int))) := ent_put (x0, x1, x2, ()) h
theorem o182 {D : Den} {σ : Sig} {F : Nat} (hF : Fits2 Try.prog D σ) (H : H182 D σ F) : (e182 F).Ok Try.prog := by
  refine ok_of (f := 182) (show unk 182 = 182 from rfl) (fun args r h => ?_) ⟨Try.f182, Try.func182, rfl, rfl⟩
  obtain ⟨⟨x0, x1, x2, _⟩, y, rfl, hy, rfl⟩ := da_open h
  exact contract_run hF (by kernel_rfl) Try.func182 rfl c182 (show 3 ≤ Try.f182.ntmps by decide) (t182 H x0 x1 x2 _ ⟨rfl, rfl, rfl⟩ hy)
/- loop.example/g01109/spec.l6Step -/
def A156_1 : AC := (.seq (.reg [] [(jm 19 7), ((jv 20 (.load (.ag [.s, .p]) (.t 3)))), (jm 21 7), ((jv 22 (.fld (.t 4) 1 1))), ((jv 23 (.load .p (.t 22)))), (.mk (some 24) none false (.call (.k (.fn 182 [] [])) [(.t 20), (.t 21), (.t 23)])), ((jv 25 (.bld (.agg [(.sl .nl .s 0 []), (.sl .nl .s 0 [])]) [(0, 0, (.t 19)), (1, 1, (.t 24))]))), (.mk none none false (.store (.ag [.p, .p]) (.t 6) (.t 25)))] []) .ret)
def A156_4 : AC := (.cond (.t 14) (.reg [] [((jv 15 (.fld (.t 4) 0 0))), ((jv 16 (.load .p (.t 15)))), (jm 17 2), (.mk (some 18) none false (.call (.k (.fn 146 [] [])) [(.t 16), (.t 17)])), (jm 7 18)] []) .skip)
def A156_3 : AC := (.seq (.seq (.reg [] [(jm 13 2), ((jv 14 (.bin .geq (.t 13) (jn 0))))] []) A156_4) A156_1)
def A156_2 : AC := (.seq (.reg [] [((jv 8 (.fld (.t 4) 0 0))), ((jv 9 (.load .p (.t 8)))), (jm 10 2), ((jv 11 (.bin .sub (jn (-1)) (.t 10)))), (.mk (some 12) none false (.call (.k (.fn 109 [] [])) [(.t 9), (.t 11)])), (jm 7 12)] []) A156_3)
def A156 : AC := (.seq (.reg [.clr [3, 4, 6]] [(.mk (some 3) none false (.box (.t 0))), (.mk (some 4) none false (.box (.t 1))), (.mk (some 6) none false (.alloc (.agg [(.sl .nl .s 0 []), (.sl .nl .s 0 [])])))] []) A156_2)
def an156 : List An := [{ id := 0, pre := [.clr [3, 4, 6]], ep := [], lin := [], sp := [] }]
theorem c156 : cC Try.prog Try.f156.ntmps an156 (Try.f156.body.getD .skip) = some A156 := by kernel_rfl
structure H156 (D : Den) (σ : Sig) (F : Nat) : Prop where
  c109 : ∀ (x0 : (List Int)) (x1 : Int) r, s_l2Without F x0 x1 = some r → D 109 [Enc.enc x0, Enc.enc x1] = some (Enc.enc (r : (List Int)))
  g109 : σ 109 = some (0, false)
  c146 : ∀ (x0 : (List Int)) (x1 : Int) r, s_l1Put F x0 x1 = some r → D 146 [Enc.enc x0, Enc.enc x1] = some (Enc.enc (r : (List Int)))
  g146 : σ 146 = some (0, true)
  c182 : ∀ (x0 : (Int × (List (Int × Int)))) (x1 : (List Int)) (x2 : (List Int)) r, s_l6Spread F x0 x1 x2 = some r → D 182 [Enc.enc x0, Enc.enc x1, Enc.enc x2] = some (Enc.enc (r : (List Int)))
  g182 : σ 182 = some (0, true)
abbrev R156 (r : ((List Int) × (List Int))) : (Nat → V) → Prop := RR Try.prog [.cell 6 94] 0 true (Enc.enc (r : ((List Int) × (List Int))))
section
variable {D : Den} {σ : Sig} {F : Nat} {r : ((List Int) × (List Int))}
def s_l6Step_j1 (F : Nat) (x_1 : (Int × (List (Int × Int)))) (x_2 : ((List Int) × (List Int)))  (x_6 : (List Int)) : Option ((List Int) × (List Int)) :=
  (s_l6Spread F x_1 x_6 x_2.2).bind fun r_7 =>
  some (x_6, r_7)
theorem t_f156_j1 (H : H156 D σ F) (x_1 : (Int × (List (Int × Int)))) (x_2 : ((List Int) × (List Int)))  (x_6 : (List Int)) (s : Nat → V) (hs : Facts [(3, (.ref (.bx 3) 0 [] (.agg [(ji x_1.1), (Enc.enc (x_1.2 : List (Int × Int)))]))), (4, (.ref (.bx 4) 0 [] (.agg [(eL x_2.1), (eL x_2.2)]))), (6, (.ref (.bx 6) 0 [] (.agg [(.sl .nl (Enc.shp Int) 0 []), (.sl .nl (Enc.shp Int) 0 [])]))), (7, (eL x_6))] s) (h : s_l6Step_j1 F x_1 x_2  x_6 = some r) : Run D σ (R156 r) (.nrm [.sq A156_1]) s := by
  unfold s_l6Step_j1 at h
  obtain ⟨h3, h4, h6, h7⟩ := hs
  refine .nsq (.seq (rg (gm h7 fun h19 => g1 3 (.agg [(ji x_1.1), (Enc.enc (x_1.2 : List (Int × Int)))]) h3 fun h20 => ?_)))
  refine gm h7 fun h21 => g1 4 (.ref (.bx 4) 0 [1] (eL x_2.2)) h4 fun h22 => ?_
  refine g1 22 (eL x_2.2) h22 fun h23 => ?_
  obtain ⟨r_7, E_r_7, h⟩ := bind_some h
  refine g_call (m := 0) (al := true) (r := (Enc.enc (r_7 : (List Int)))) [Enc.enc (x_1 : (Int × (List (Int × Int)))), Enc.enc (x_6 : (List Int)), Enc.enc (x_2.2 : (List Int))] (ta_cons (v := (.agg [(ji x_1.1), (Enc.enc (x_1.2 : List (Int × Int)))])) h20 rfl (Enc.erase_enc (x_1 : (Int × (List (Int × Int))))) (ta_cons (v := (eL x_6)) h21 rfl (Enc.erase_enc (x_6 : (List Int))) (ta_cons (v := (eL x_2.2)) h23 rfl (Enc.erase_enc (x_2.2 : (List Int))) ta_nil))) (H.c182 _ _ _ _ E_r_7) H.g182 (hal_of (ht_cons (v := (.agg [(ji x_1.1), (Enc.enc (x_1.2 : List (Int × Int)))])) h20 rfl rfl (ht_cons (v := (eL x_6)) h21 rfl rfl (ht_cons (v := (eL x_2.2)) h23 rfl rfl ht_nil)))) rfl rfl rfl ?_
  refine g2 19 24 (.agg [(eL x_6), (eL r_7)]) h19 (rfl : (_ : V) = (eL r_7)) fun h25 => ?_
  refine g_store (.agg [(eL x_6), (eL r_7)]) (rd_of h6 rfl) (rd_of h25 rfl) (by refine ⟨by decide, by decide, rfl, rfl, rfl, ?_⟩; first | rfl | simp [V.toks, V.tokss, Enc.toks_enc]) ?_
  refine gz [(6, (.ref (.bx 6) 0 [] (.agg [(eL x_6), (eL r_7)])))] (keep_mut h6 rfl) ?_
  rintro s h6
  refine .nsq (.ret ?_)
  have hr := Option.some.inj h
  subst hr
  exact rrA (res_cell h6 (by kernel_rfl)) (fin_ret1 (fin_enc (x := ((x_6, r_7) : ((List Int) × (List Int))))))
def s_l6Step (F : Nat) (x_1 : (Int × (List (Int × Int)))) (x_2 : ((List Int) × (List Int))) (x_3 : Int) : Option ((List Int) × (List Int)) :=
  (s_l2Without F x_2.1 (w64 ((-1) - x_3))).bind fun r_4 =>
  bif decide (x_3 ≥ 0) then
    (s_l1Put F x_2.1 x_3).bind fun r_8 =>
    s_l6Step_j1 F x_1 x_2 r_8
  else
    s_l6Step_j1 F x_1 x_2 r_4
theorem t156 (H : H156 D σ F) (x_1 : (Int × (List (Int × Int)))) (x_2 : ((List Int) × (List Int))) (x_3 : Int) (s : Nat → V) (hs : Facts [(0, (.agg [(ji x_1.1), (Enc.enc (x_1.2 : List (Int × Int)))])), (1, (.agg [(eL x_2.1), (eL x_2.2)])), (2, (ji x_3))] s) (h : s_l6Step F x_1 x_2 x_3 = some r) : Run D σ (R156 r) (.run A156 []) s := by
  unfold s_l6Step at h
  obtain ⟨h0, h1, h2⟩ := hs
  refine .seq (run_reg ?_)
  refine e_clr ?_
  refine ez [(0, _), (1, _), (2, _), (3, _), (4, _), (6, _)] ⟨(keep_clear (pk := [3, 4, 6]) h0 rfl (map_agg (maps_cons mi (maps_cons me maps_nil)))), (keep_clear (pk := [3, 4, 6]) h1 rfl (map_agg (maps_cons me (maps_cons me maps_nil)))), (keep_clear (pk := [3, 4, 6]) h2 rfl mi), (gone_clear (pk := [3, 4, 6]) (t := 3) rfl), (gone_clear (pk := [3, 4, 6]) (t := 4) rfl), (gone_clear (pk := [3, 4, 6]) (t := 6) rfl)⟩ ?_
  rintro s ⟨h0, h1, h2, h3, h4, h6⟩
  refine g_box (.agg [(ji x_1.1), (Enc.enc (x_1.2 : List (Int × Int)))]) (rd_of h0 rfl) h3 rfl ?_
  refine g_box (.agg [(eL x_2.1), (eL x_2.2)]) (rd_of h1 rfl) h4 rfl ?_
  refine g_alloc h6 ?_
  refine gq (.nsq (.seq (rg (g1 4 (.ref (.bx 4) 0 [0] (eL x_2.1)) (rfl : (_ : V) = (.ref (.bx 4) 0 [] (.agg [(eL x_2.1), (eL x_2.2)]))) fun h8 => ?_))))
  refine g1 8 (eL x_2.1) h8 fun h9 => ?_
  refine gm h2 fun h10 => g1 10 (ji (w64 ((-1) - x_3))) h10 fun h11 => ?_
  obtain ⟨r_4, E_r_4, h⟩ := bind_some h
  refine g_call (m := 0) (al := false) (r := (Enc.enc (r_4 : (List Int)))) [Enc.enc (x_2.1 : (List Int)), Enc.enc (w64 ((-1) - x_3) : Int)] (ta_cons (v := (eL x_2.1)) h9 rfl (Enc.erase_enc (x_2.1 : (List Int))) (ta_cons (v := (ji (w64 ((-1) - x_3)))) h11 rfl rfl ta_nil)) (H.c109 _ _ _ E_r_4) H.g109 rfl rfl rfl rfl ?_
  refine gm (rfl : (_ : V) = (eL r_4)) fun h7 => ?_
  refine gq (.nsq (.seq (.seq (rg (gm h2 fun h13 => g1 13 (jb (decide (x_3 ≥ 0))) h13 fun h14 => ?_)))))
  refine gq (.nsq (run_cond (t := decide (x_3 ≥ 0)) h14 h (fun h => ?_) (fun h => ?_)))
  · refine rg (g1 4 (.ref (.bx 4) 0 [0] (eL x_2.1)) (rfl : (_ : V) = (.ref (.bx 4) 0 [] (.agg [(eL x_2.1), (eL x_2.2)]))) fun h15 => ?_)
    refine g1 15 (eL x_2.1) h15 fun h16 => ?_
    refine gm h2 fun h17 => ?_
    obtain ⟨r_8, E_r_8, h⟩ := bind_some h
    refine g_call (m := 0) (al := true) (r := (Enc.enc (r_8 : (List Int)))) [Enc.enc (x_2.1 : (List Int)), Enc.enc (x_3 : Int)] (ta_cons (v := (eL x_2.1)) h16 rfl (Enc.erase_enc (x_2.1 : (List Int))) (ta_cons (v := (ji x_3)) h17 rfl rfl ta_nil)) (H.c146 _ _ _ E_r_8) H.g146 (hal_of (ht_cons (v := (eL x_2.1)) h16 rfl rfl (ht_cons (v := (ji x_3)) h17 rfl rfl ht_nil))) rfl rfl rfl ?_
    refine gm (rfl : (_ : V) = (eL r_8)) fun h7 => ?_
    refine gq ?_
    exact t_f156_j1 H x_1 x_2 r_8 _ ⟨rfl, rfl, rfl, h7⟩ h
  refine .skip ?_
  exact t_f156_j1 H x_1 x_2 r_4 _ ⟨rfl, rfl, rfl, h7⟩ h
end
def e156 (F : Nat) : Ent := ent 156 (fun (x : ((Int × (List (Int × Int))) × ((List Int) × (List Int)) × Int × Unit)) => s_l6Step F x.1 x.2.1 x.2.2.1) (fun (r : ((List Int) × (List Int))) => (Enc.enc (r : ((List Int) × (List Int))))) 0 true []
theorem p156 {F : Nat} {x0 : (Int × (List (Int × Int)))} {x1 : ((List Int) × (List Int))} {x2 : Int} {r : ((List Int) × (List Int))} (h : s_l6Step F x0 x1 x2 = some r) : (e156 F).den [Enc.enc x0, Enc.enc x1, Enc.enc x2] = some (Enc.enc (r : ((List Int) × (List Int)))) := ent_put (x0, x1, x2, ()) h
theorem o156 {D : Den} {σ : Sig} {F : Nat} (hF : Fits2 Try.prog D σ) (H : H156 D σ F) : (e156 F).Ok Try.prog := by
  refine ok_of (f := 156) (show unk 156 = 156 from rfl) (fun args r h => ?_) ⟨Try.f156, Try.func156, rfl, rfl⟩
  obtain ⟨⟨x0, x1, x2, _⟩, y, rfl, hy, rfl⟩ := da_open h
  exact contract_run hF (by kernel_rfl) Try.func156 rfl c156 (show 3 ≤ Try.f156.ntmps by decide) (t156 H x0 x1 x2 _ ⟨rfl, rfl, rfl⟩ hy)
/- loop.example/g01109/spec.l6Code -/
def A158_2 : AC := (.cond (.t 25) .skip (.exit 2))
def A158_4 : AC := (.reg [] [(jm 26 5), ((jv 27 (.bin .add (.t 26) (jn 1)))), (jm 5 27)] [])
def A158_3 : AC := (.seq (.block 3 (.reg [] [(jm 28 3), ((jv 29 (.fld (.t 1) 1 1))), ((jv 30 (.load .p (.t 29)))), (jm 31 5), ((jv 32 (.idx (.t 30) (.t 31) 1))), ((jv 33 (.load .s (.t 32)))), ((jv 34 (.bin .shl (jn 256) (.t 33)))), ((jv 35 (.bin .add (.t 28) (.t 34)))), (jm 3 35)] [])) A158_4)
def A158_1 : AC := (.seq (.seq (.reg [] [(jm 21 5), ((jv 22 (.fld (.t 1) 1 1))), ((jv 23 (.load .p (.t 22)))), ((jv 24 (.len (.t 23)))), ((jv 25 (.bin .lss (.t 21) (.t 24))))] []) A158_2) A158_3)
def A158_5 : AC := (.seq (.reg [] [(jm 36 3), (jm 2 36)] []) .ret)
def A158_7 : AC := (.cond (.t 10) .skip (.exit 0))
def A158_9 : AC := (.reg [] [(jm 11 4), ((jv 12 (.bin .add (.t 11) (jn 1)))), (jm 4 12)] [])
def A158_8 : AC := (.seq (.block 1 (.reg [] [(jm 13 3), ((jv 14 (.fld (.t 1) 0 0))), ((jv 15 (.load .p (.t 14)))), (jm 16 4), ((jv 17 (.idx (.t 15) (.t 16) 1))), ((jv 18 (.load .s (.t 17)))), ((jv 19 (.bin .shl (jn 1) (.t 18)))), ((jv 20 (.bin .add (.t 13) (.t 19)))), (jm 3 20)] [])) A158_9)
def A158_6 : AC := (.seq (.seq (.reg [] [(jm 6 4), ((jv 7 (.fld (.t 1) 0 0))), ((jv 8 (.load .p (.t 7)))), ((jv 9 (.len (.t 8)))), ((jv 10 (.bin .lss (.t 6) (.t 9))))] []) A158_7) A158_8)
def A158_11 : AC := (.block 2 (.loop A158_1))
def A158_10 : AC := (.seq (.seq (.reg [] [((jv 5 (.mov (jn 0))))] []) A158_11) A158_5)
def A158_14 : AC := (.block 0 (.loop A158_6))
def A158_13 : AC := (.seq (.seq (.reg [] [((jv 4 (.mov (jn 0))))] []) A158_14) A158_10)
def A158_12 : AC := (.seq (.reg [] [((jv 3 (.mov (jn 0))))] []) A158_13)
def A158 : AC := (.seq (.reg [.clr [1]] [(.mk (some 1) none false (.box (.t 0))), ((jv 2 (.mov (jn 0))))] []) A158_12)
def an158 : List An := [{ id := 0, pre := [.clr [1]], ep := [], lin := [], sp := [] }]
theorem c158 : cC Try.prog Try.f158.ntmps an158 (Try.f158.body.getD .skip) = some A158 := by kernel_rfl
structure H158 (D : Den) (σ : Sig) (F : Nat) : Prop where
  mk ::
abbrev R158 (r : Int) : (Nat → V) → Prop := RR Try.prog [.tmp 2] 0 false (Enc.enc (r : Int))
section
variable {D : Den} {σ : Sig} {F : Nat} {r : Int}
def s_l6Code_l1 (F : Nat) (x_1 : ((List Int) × (List Int)))  : Nat → Int → Int → Option Int
  | 0, _, _ => none
  | k + 1, x_12, x_13 =>
    bif decide (x_13 < (x_1.2.length : Int)) then
      (idx x_1.2 x_13).bind fun e_16 =>
      (shlI .i64 256 e_16).bind fun q_17 =>
      (s_l6Code_l1 F x_1 k) (w64 (x_12 + q_17)) (w64 (x_13 + 1))
    else
      some x_12
theorem t_f158_l1 (H : H158 D σ F) (x_1 : ((List Int) × (List Int)))  : ∀ (k : Nat) (x_12 : Int) (x_13 : Int) (s : Nat → V), Facts [(1, (.ref (.bx 1) 0 [] (.agg [(eL x_1.1), (eL x_1.2)]))), (2, (ji 0)), (3, (ji x_12)), (5, (ji x_13))] s → s_l6Code_l1 F x_1 k x_12 x_13 = some r → Run D σ (R158 r) (.run A158_1 [.lp A158_1, .bk 2, .sq A158_5]) s := by
  intro k
  induction k with
  | zero => intro x_12 x_13 s _ h; exact nomatch (h : (none : Option _) = some r)
  | succ k ih =>
    intro x_12 x_13 s hs h
    rw [s_l6Code_l1] at h
    obtain ⟨h1, h2, h3, h5⟩ := hs
    refine .seq (.seq (rg (gm h5 fun h21 => g1 1 (.ref (.bx 1) 0 [1] (eL x_1.2)) h1 fun h22 => ?_)))
    refine g1 22 (eL x_1.2) h22 fun h23 => ?_
    refine gv (ji (x_1.2.length : Int)) (ev_len (xs := x_1.2) h23) fun h24 => ?_
    refine g2 21 24 (jb (decide (x_13 < (x_1.2.length : Int)))) h21 h24 fun h25 => ?_
    refine gq (.nsq (run_cond (t := decide (x_13 < (x_1.2.length : Int))) h25 h (fun h => ?_) (fun h => ?_)))
    · refine .skip (.nsq (.seq (.block (rg (gm h3 fun h28 => g1 1 (.ref (.bx 1) 0 [1] (eL x_1.2)) h1 fun h29 => ?_)))))
      refine g1 29 (eL x_1.2) h29 fun h30 => ?_
      refine gm h5 fun h31 => ?_
      obtain ⟨e_16, E_e_16, h⟩ := bind_some h
      refine gv (.ref .sh 0 [] (ji e_16)) (ev_idx (t := .sh) (lo := 0) (xs := x_1.2) h30 h31 E_e_16 rfl rfl) fun h32 => ?_
      refine g1 32 (ji e_16) h32 fun h33 => ?_
      obtain ⟨q_17, E_q_17, h⟩ := bind_some h
      refine gv (ji q_17) (ev_shl rfl h33 E_q_17) fun h34 => ?_
      refine g2 28 34 (ji (w64 (x_12 + q_17))) h28 h34 fun h35 => ?_
      refine gm h35 fun h3 => gq (.nbk (.nsq (rg (gm h5 fun h26 => g1 26 (ji (w64 (x_13 + 1))) h26 fun h27 => ?_))))
      refine gm h27 fun h5 => gq (.nlp ?_)
      exact ih (w64 (x_12 + q_17)) (w64 (x_13 + 1)) _ ⟨h1, h2, h3, h5⟩ h
    refine .exit (.esq (.elp (.ebk (.nsq (.seq (rg (gm h3 fun h36 => gm h36 fun h2 => gq (.nsq (.ret ?_)))))))))
    have hr := Option.some.inj h
    subst hr
    exact rrA (res_tmp h2) rfl
def s_l6Code_l2 (F : Nat) (x_1 : ((List Int) × (List Int)))  : Nat → Int → Int → Option Int
  | 0, _, _ => none
  | k + 1, x_4, x_5 =>
    bif decide (x_5 < (x_1.1.length : Int)) then
      (idx x_1.1 x_5).bind fun e_8 =>
      (shlI .i64 1 e_8).bind fun q_9 =>
      (s_l6Code_l2 F x_1 k) (w64 (x_4 + q_9)) (w64 (x_5 + 1))
    else
      s_l6Code_l1 F x_1 F x_4 0
theorem t_f158_l2 (H : H158 D σ F) (x_1 : ((List Int) × (List Int)))  : ∀ (k : Nat) (x_4 : Int) (x_5 : Int) (s : Nat → V), Facts [(1, (.ref (.bx 1) 0 [] (.agg [(eL x_1.1), (eL x_1.2)]))), (2, (ji 0)), (3, (ji x_4)), (4, (ji x_5))] s → s_l6Code_l2 F x_1 k x_4 x_5 = some r → Run D σ (R158 r) (.run A158_6 [.lp A158_6, .bk 0, .sq A158_10]) s := by
  intro k
  induction k with
  | zero => intro x_4 x_5 s _ h; exact nomatch (h : (none : Option _) = some r)
  | succ k ih =>
    intro x_4 x_5 s hs h
    rw [s_l6Code_l2] at h
    obtain ⟨h1, h2, h3, h4⟩ := hs
    refine .seq (.seq (rg (gm h4 fun h6 => g1 1 (.ref (.bx 1) 0 [0] (eL x_1.1)) h1 fun h7 => ?_)))
    refine g1 7 (eL x_1.1) h7 fun h8 => ?_
    refine gv (ji (x_1.1.length : Int)) (ev_len (xs := x_1.1) h8) fun h9 => ?_
    refine g2 6 9 (jb (decide (x_5 < (x_1.1.length : Int)))) h6 h9 fun h10 => ?_
    refine gq (.nsq (run_cond (t := decide (x_5 < (x_1.1.length : Int))) h10 h (fun h => ?_) (fun h => ?_)))
    · refine .skip (.nsq (.seq (.block (rg (gm h3 fun h13 => g1 1 (.ref (.bx 1) 0 [0] (eL x_1.1)) h1 fun h14 => ?_)))))
      refine g1 14 (eL x_1.1) h14 fun h15 => ?_
      refine gm h4 fun h16 => ?_
      obtain ⟨e_8, E_e_8, h⟩ := bind_some h
      refine gv (.ref .sh 0 [] (ji e_8)) (ev_idx (t := .sh) (lo := 0) (xs := x_1.1) h15 h16 E_e_8 rfl rfl) fun h17 => ?_
      refine g1 17 (ji e_8) h17 fun h18 => ?_
      obtain ⟨q_9, E_q_9, h⟩ := bind_some h
      refine gv (ji q_9) (ev_shl rfl h18 E_q_9) fun h19 => ?_
      refine g2 13 19 (ji (w64 (x_4 + q_9))) h13 h19 fun h20 => ?_
      refine gm h20 fun h3 => gq (.nbk (.nsq (rg (gm h4 fun h11 => g1 11 (ji (w64 (x_5 + 1))) h11 fun h12 => ?_))))
      refine gm h12 fun h4 => gq (.nlp ?_)
      exact ih (w64 (x_4 + q_9)) (w64 (x_5 + 1)) _ ⟨h1, h2, h3, h4⟩ h
    refine .exit (.esq (.elp (.ebk (.nsq (.seq (.seq (rg (g0 (ji 0) fun h5 => gq (.nsq (.block (.loop ?_)))))))))))
    exact t_f158_l1 H x_1 F x_4 0 _ ⟨h1, h2, h3, h5⟩ h
def s_l6Code (F : Nat) (x_1 : ((List Int) × (List Int))) : Option Int :=
  s_l6Code_l2 F x_1 F 0 0
theorem t158 (H : H158 D σ F) (x_1 : ((List Int) × (List Int))) (s : Nat → V) (hs : Facts [(0, (.agg [(eL x_1.1), (eL x_1.2)]))] s) (h : s_l6Code F x_1 = some r) : Run D σ (R158 r) (.run A158 []) s := by
  unfold s_l6Code at h
  have h0 := hs
  refine .seq (run_reg ?_)
  refine e_clr ?_
  refine ez [(0, _), (1, _)] ⟨(keep_clear (pk := [1]) h0 rfl (map_agg (maps_cons me (maps_cons me maps_nil)))), (gone_clear (pk := [1]) (t := 1) rfl)⟩ ?_
  rintro s ⟨h0, h1⟩
  refine g_box (.agg [(eL x_1.1), (eL x_1.2)]) (rd_of h0 rfl) h1 rfl ?_
  refine g0 (ji 0) fun h2 => gq (.nsq (.seq (rg (g0 (ji 0) fun h3 => gq (.nsq (.seq (.seq (rg (g0 (ji 0) fun h4 => gq (.nsq (.block (.loop ?_))))))))))))
  exact t_f158_l2 H x_1 F 0 0 _ ⟨rfl, h2, h3, h4⟩ h
end
def e158 (F : Nat) : Ent := ent 158 (fun (x : (((List Int) × (List Int)) × Unit)) => s_l6Code F x.1) (fun (r : Int) => (Enc.enc (r : Int))) 0 false []
theorem p158 {F : Nat} {x0 : ((List Int) × (List Int))} {r : Int} (h : s_l6Code F x0 = some r) : (e158 F).den [Enc.enc x0] = some (Enc.enc (r : Int)) := ent_put (x0, ()) h
theorem o158 {D : Den} {σ : Sig} {F : Nat} (hF : Fits2 Try.prog D σ) (H : H158 D σ F) : (e158 F).Ok Try.prog := by
  refine ok_of (f := 158) (show unk 158 = 158 from rfl) (fun args r h => ?_) ⟨Try.f158, Try.func158, rfl, rfl⟩
  obtain ⟨⟨x0, _⟩, y, rfl, hy, rfl⟩ := da_open h
  exact contract_run hF (by kernel_rfl) Try.func158 rfl c158 (show 1 ≤ Try.f158.ntmps by decide) (t158 H x0 _ rfl hy)
/- loop.example/g01109/spec.l1Own -/
def A97o_1 : AC := (.seq (.reg [.clr [3, 5]] [(.mk (some 3) none false (.lit (.int .i64 (.ofNat 0)) 0 [])), (jm 4 0), (.mk (some 5) none false (.app .s (.t 3) (.t 4))), (jm 2 5)] [.home 5 2]) .ret)
def A97o : AC := (.seq (.reg [] [((jv 2 (.mov (.k (.sl .nl .s 0 [])))))] []) A97o_1)
def an97o : List An := [{ id := 1, pre := [.clr [3, 5]], ep := [.home 5 2], lin := [], sp := [] }]
theorem c97o : cC Try.prog Try.f97.ntmps an97o (Try.f97.body.getD .skip) = some A97o := by kernel_rfl
structure H97o (D : Den) (σ : Sig) (F : Nat) : Prop where
  mk ::
abbrev R97o (r : (NL Int)) : (Nat → V) → Prop := RR Try.prog [.tmp 2] 1 false (encO .sh (r : NL Int))
section
variable {D : Den} {σ : Sig} {F : Nat} {r : (NL Int)}
def s_l1Own_o (F : Nat) (x_1 : (List Int)) : Option (NL Int) :=
  (appL [] x_1).bind fun ap_2 =>
  some (.of ap_2)
theorem t97o (H : H97o D σ F) (x_1 : (List Int)) (s : Nat → V) (hs : Facts [(0, (eL x_1))] s) (h : s_l1Own_o F x_1 = some r) : Run D σ (R97o r) (.run A97o []) s := by
  unfold s_l1Own_o at h
  have h0 := hs
  refine .seq (rg (g0 (.sl .nl (Enc.shp Int) 0 []) fun h2 => ?_))
  refine gq (.nsq (.seq (run_reg ?_)))
  refine e_clr ?_
  refine ez [(0, _), (2, _), (3, _), (5, _)] ⟨(keep_clear (pk := [3, 5]) h0 rfl me), (keep_clear (pk := [3, 5]) h2 rfl rfl), (gone_clear (pk := [3, 5]) (t := 3) rfl), (gone_clear (pk := [3, 5]) (t := 5) rfl)⟩ ?_
  rintro s ⟨h0, h2, h3, h5⟩
  refine g_litL [] [] trivial rfl rfl h3 ?_
  refine gm h0 fun h4 => ?_
  obtain ⟨ap_2, E_ap_2, h⟩ := bind_some h
  refine g_app (q := 3) (p := []) (o := (.of ([] : List Int))) (ys := (x_1 : List Int)) (t2 := .sh) (lo2 := 0) rfl h4 rfl h5 (appN_L (o := (.of ([] : List Int))) E_ap_2 trivial) (fun s_2 ha_2 => ?_)
  refine gm (rfl : (_ : V) = (oI 5 [] (.of ap_2))) fun h2 => ?_
  refine g_end ?_
  refine e_home (r := 5) (x := 2) (v := _) h2 rfl (fun s_3 hg_3 => ?_)
  refine ez [(2, (oI 2 [] (.of ap_2)))] (hg_3 2 _ _ h2 (map_encO (r := 5) (p := []) rfl rfl)) ?_
  rintro s h2
  refine .nsq (.ret ?_)
  have hr := Option.some.inj h
  subst hr
  exact rrA (res_tmp h2) (fin_retO (finO_own (o := ((.of ap_2) : NL Int))) rfl (mine_own rfl))
end
def e97o (F : Nat) : Ent := ent 1000000097 (fun (x : ((List Int) × Unit)) => s_l1Own_o F x.1) (fun (r : (NL Int)) => (encO .sh (r : NL Int))) 1 false []
theorem p97o {F : Nat} {x0 : (List Int)} {r : (NL Int)} (h : s_l1Own_o F x0 = some r) : (e97o F).den [Enc.enc x0] = some (encO .sh (r : NL Int)) := ent_put (x0, ()) h
theorem o97o {D : Den} {σ : Sig} {F : Nat} (hF : Fits2 Try.prog D σ) (H : H97o D σ F) : (e97o F).Ok Try.prog := by
  refine ok_of (f := 97) (show unk 1000000097 = 97 from rfl) (fun args r h => ?_) ⟨Try.f97, Try.func97, rfl, rfl⟩
  obtain ⟨⟨x0, _⟩, y, rfl, hy, rfl⟩ := da_open h
  exact contract_run hF (by kernel_rfl) Try.func97 rfl c97o (show 1 ≤ Try.f97.ntmps by decide) (t97o H x0 _ rfl hy)
end Go.Zq
