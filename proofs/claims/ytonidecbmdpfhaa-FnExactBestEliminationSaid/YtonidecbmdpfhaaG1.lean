/- Functions of the program as typed functions, and that the machine runs as they say (part 1). No further condition. -/
import Derived.Test.YtonidecbmdpfhaaK3
import Derived.Test.YtonidecbmdpfhaaProg
import Derived.Test.YtonidecbmdpfhaaChecked
import Derived.KernelRfl
set_option linter.unusedVariables false
set_option linter.unusedSimpArgs false
/- Functions of the program, as typed functions, and that the machine runs as they say. -/
namespace Go.Zq
open Go.Proofs
/- loop.example/g01109/laws.szIntA2S -/
def A47_3 : AC := (.cond (.t 10) (.seq (.reg [] [(.mk (some 4) none false (.v (.mov (.k (.int .i64 (.negSucc 0))))))] []) .ret) .skip)
def A47_4 : AC := (.seq (.reg [] [(.mk (some 11) none false (.v (.mov (.t 1)))), (.mk (some 4) none false (.v (.mov (.t 11))))] []) .ret)
def A47_2 : AC := (.seq (.seq (.reg [] [(.mk (some 9) none false (.v (.mov (.t 1)))), (.mk (some 10) none false (.v (.bin .lss (.t 9) (.k (.int .i64 (.ofNat 0))))))] []) A47_3) A47_4)
def A47_1 : AC := (.seq (.reg [] [(.mk (some 5) none false (.v (.mov (.t 1)))), (.mk (some 6) none false (.v (.mov (.t 0)))), (.mk (some 7) none false (.v (.len (.t 6)))), (.mk (some 8) none false (.v (.bin .sub (.t 5) (.t 7)))), (.mk (some 1) none false (.v (.mov (.t 8))))] []) A47_2)
def A47 : AC := (.seq (.reg [] [(.mk (some 4) none false (.v (.mov (.k (.int .i64 (.ofNat 0))))))] []) A47_1)
def an47 : List An := []
theorem c47 : cC Try.prog Try.f47.ntmps an47 (Try.f47.body.getD .skip) = some A47 := by kernel_rfl
structure H47 (D : Den) (σ : Sig) (F : Nat) : Prop where
  mk ::
abbrev R47 (r : Int) : (Nat → V) → Prop := RR Try.prog [.tmp 4] 0 false (Enc.enc (r : Int))
section
variable {D : Den} {σ : Sig} {F : Nat} {r : Int}
def w_szIntA2S (F : Nat) (a_1 : (List (Int × Int))) (left_2 : Int) : Option Int :=
  bif decide ((w64 (left_2 - (a_1.length : Int))) < 0) then
    some (-1)
  else
    some (w64 (left_2 - (a_1.length : Int)))
theorem t47 (H : H47 D σ F) (a_1 : (List (Int × Int))) (left_2 : Int) (s : Nat → V) (hs : Facts [(0, (Enc.enc (a_1 : List (Int × Int)))), (1, (.int .i64 left_2))] s) (h : w_szIntA2S F a_1 left_2 = some r) : Run D σ (R47 r) (.run A47 []) s := by
  unfold w_szIntA2S at h
  obtain ⟨h0, h1⟩ := hs
  refine .seq ?_
  refine run_reg ?_
  refine e_end ?_
  refine g_v0 (.int .i64 0) rfl rfl ?_
  refine g_end ?_
  refine e_end ?_
  refine renew [(0, (Enc.enc (a_1 : List (Int × Int)))), (1, (.int .i64 left_2)), (4, (.int .i64 0))] ⟨h0, h1, rfl⟩ ?_
  rintro s ⟨h0, h1, h4⟩
  refine .nsq ?_
  refine .seq ?_
  refine run_reg ?_
  refine e_end ?_
  refine g_v1 (t := 1) (u := (.int .i64 left_2)) (.int .i64 left_2) h1 rfl rfl ?_
  refine g_v1 (t := 0) (u := (Enc.enc (a_1 : List (Int × Int)))) (Enc.enc (a_1 : List (Int × Int))) h0 rfl rfl ?_
  refine g_v (.int .i64 (a_1.length : Int)) (ev_len (xs := a_1) rfl) ?_
  refine g_v2 (t1 := 5) (t2 := 7) (u1 := (.int .i64 left_2)) (u2 := (.int .i64 (a_1.length : Int))) (.int .i64 (w64 (left_2 - (a_1.length : Int)))) rfl rfl rfl rfl ?_
  refine g_v1 (t := 8) (u := (.int .i64 (w64 (left_2 - (a_1.length : Int))))) (.int .i64 (w64 (left_2 - (a_1.length : Int)))) rfl rfl rfl ?_
  refine g_end ?_
  refine e_end ?_
  refine renew [(1, (.int .i64 (w64 (left_2 - (a_1.length : Int))))), (4, (.int .i64 0))] ⟨rfl, h4⟩ ?_
  rintro s ⟨h1, h4⟩
  refine .nsq ?_
  refine .seq ?_
  refine .seq ?_
  refine run_reg ?_
  refine e_end ?_
  refine g_v1 (t := 1) (u := (.int .i64 (w64 (left_2 - (a_1.length : Int))))) (.int .i64 (w64 (left_2 - (a_1.length : Int)))) h1 rfl rfl ?_
  refine g_v1 (t := 9) (u := (.int .i64 (w64 (left_2 - (a_1.length : Int))))) (.bool (decide ((w64 (left_2 - (a_1.length : Int))) < 0))) rfl rfl rfl ?_
  refine g_end ?_
  refine e_end ?_
  refine renew [(1, (.int .i64 (w64 (left_2 - (a_1.length : Int))))), (4, (.int .i64 0)), (10, (.bool (decide ((w64 (left_2 - (a_1.length : Int))) < 0))))] ⟨h1, h4, rfl⟩ ?_
  rintro s ⟨h1, h4, h10⟩
  refine .nsq ?_
  refine run_cond (t := decide ((w64 (left_2 - (a_1.length : Int))) < 0)) h10 h (fun h => ?_) (fun h => ?_)
  · refine .seq ?_
    refine run_reg ?_
    refine e_end ?_
    refine g_v0 (.int .i64 (-1)) rfl rfl ?_
    refine g_end ?_
    refine e_end ?_
    refine renew [(1, (.int .i64 (w64 (left_2 - (a_1.length : Int))))), (4, (.int .i64 (-1)))] ⟨h1, rfl⟩ ?_
    rintro s ⟨h1, h4⟩
    refine .nsq ?_
    refine .ret ?_
    have hr := Option.some.inj h
    subst hr
    exact rrA (res_tmp h4) rfl
  · refine .skip ?_
    refine .nsq ?_
    refine .seq ?_
    refine run_reg ?_
    refine e_end ?_
    refine g_v1 (t := 1) (u := (.int .i64 (w64 (left_2 - (a_1.length : Int))))) (.int .i64 (w64 (left_2 - (a_1.length : Int)))) h1 rfl rfl ?_
    refine g_v1 (t := 11) (u := (.int .i64 (w64 (left_2 - (a_1.length : Int))))) (.int .i64 (w64 (left_2 - (a_1.length : Int)))) rfl rfl rfl ?_
    refine g_end ?_
    refine e_end ?_
    refine renew [(4, (.int .i64 (w64 (left_2 - (a_1.length : Int)))))] rfl ?_
    rintro s h4
    refine .nsq ?_
    refine .ret ?_
    have hr := Option.some.inj h
    subst hr
    exact rrA (res_tmp h4) rfl
end
def e47 (F : Nat) : Ent := ⟨47, da (fun (x : ((List (Int × Int)) × Int × Unit)) => w_szIntA2S F x.1 x.2.1) (fun (r : Int) => (Enc.enc (r : Int))), 0, false, selF []⟩
theorem p47 {F : Nat} {x0 : (List (Int × Int))} {x1 : Int} {r : Int} (h : w_szIntA2S F x0 x1 = some r) : (e47 F).den [Enc.enc x0, Enc.enc x1] = some (Enc.enc (r : Int)) := da_put (f := fun (x : ((List (Int × Int)) × Int × Unit)) => w_szIntA2S F x.1 x.2.1) (t := fun (r : Int) => (Enc.enc (r : Int))) (x0, x1, ()) h
theorem o47 {D : Den} {σ : Sig} {F : Nat} (hF : Fits2 Try.prog D σ) (H : H47 D σ F) : (e47 F).Ok Try.prog := by
  refine ok_of (f := 47) (show unk 47 = 47 from rfl) (fun args r h => ?_) ⟨Try.f47, Try.func47, rfl, rfl⟩
  obtain ⟨⟨x0, x1, _⟩, y, rfl, hy, rfl⟩ := da_open h
  exact contract_run hF (by kernel_rfl) Try.func47 rfl c47 (show 2 ≤ Try.f47.ntmps by decide) (t47 H x0 x1 _ ⟨rfl, rfl⟩ hy)
/- loop.example/g01109/laws.szGraph -/
def A15_3 : AC := (.cond (.t 10) (.seq (.reg [] [(.mk (some 4) none false (.v (.mov (.k (.int .i64 (.negSucc 0))))))] []) .ret) .skip)
def A15_4 : AC := (.seq (.reg [] [(.mk (some 11) none false (.v (.mov (.t 1)))), (.mk (some 4) none false (.v (.mov (.t 11))))] []) .ret)
def A15_2 : AC := (.seq (.seq (.reg [] [(.mk (some 9) none false (.v (.mov (.t 1)))), (.mk (some 10) none false (.v (.bin .lss (.t 9) (.k (.int .i64 (.ofNat 0))))))] []) A15_3) A15_4)
def A15_1 : AC := (.seq (.reg [] [(.mk (some 5) none false (.v (.fld (.t 2) 1 1))), (.mk (some 6) none false (.v (.load .p (.t 5)))), (.mk (some 7) none false (.v (.mov (.t 1)))), (.mk (some 8) none false (.call (.k (.fn 47 [] [])) [(.t 6), (.t 7)])), (.mk (some 1) none false (.v (.mov (.t 8))))] []) A15_2)
def A15 : AC := (.seq (.reg [.clr [2]] [(.mk (some 2) none false (.box (.t 0))), (.mk (some 4) none false (.v (.mov (.k (.int .i64 (.ofNat 0))))))] []) A15_1)
def an15 : List An := [{ id := 0, pre := [.clr [2]], ep := [], lin := [], sp := [] }]
theorem c15 : cC Try.prog Try.f15.ntmps an15 (Try.f15.body.getD .skip) = some A15 := by kernel_rfl
structure H15 (D : Den) (σ : Sig) (F : Nat) : Prop where
  c47 : ∀ (x0 : (List (Int × Int))) (x1 : Int) r, w_szIntA2S F x0 x1 = some r → D 47 [Enc.enc x0, Enc.enc x1] = some (Enc.enc (r : Int))
  g47 : σ 47 = some (0, false)
abbrev R15 (r : Int) : (Nat → V) → Prop := RR Try.prog [.tmp 4] 0 false (Enc.enc (r : Int))
section
variable {D : Den} {σ : Sig} {F : Nat} {r : Int}
def w_szGraph (F : Nat) (a_1 : (Int × (List (Int × Int)))) (left_2 : Int) : Option Int :=
  (w_szIntA2S F a_1.2 left_2).bind fun r_3 =>
  bif decide (r_3 < 0) then
    some (-1)
  else
    some r_3
theorem t15 (H : H15 D σ F) (a_1 : (Int × (List (Int × Int)))) (left_2 : Int) (s : Nat → V) (hs : Facts [(0, (.agg [(.int .i64 a_1.1), (Enc.enc (a_1.2 : List (Int × Int)))])), (1, (.int .i64 left_2))] s) (h : w_szGraph F a_1 left_2 = some r) : Run D σ (R15 r) (.run A15 []) s := by
  unfold w_szGraph at h
  obtain ⟨h0, h1⟩ := hs
  refine .seq ?_
  refine run_reg ?_
  refine e_clr ?_
  refine e_end ?_
  refine g_box (.agg [(.int .i64 a_1.1), (Enc.enc (a_1.2 : List (Int × Int)))]) (rd_of (keep_clear (s := s) (pk := [2]) h0 rfl (map_agg (maps_cons rfl (maps_cons (Enc.map_enc _ (a_1.2 : List (Int × Int))) maps_nil)))) rfl) (gone_clear (s := s) (pk := [2]) (t := 2) rfl) rfl ?_
  refine g_v0 (.int .i64 0) rfl rfl ?_
  refine g_end ?_
  refine e_end ?_
  refine renew [(1, (.int .i64 left_2)), (2, (.ref (.bx 2) 0 [] (.agg [(.int .i64 a_1.1), (Enc.enc (a_1.2 : List (Int × Int)))]))), (4, (.int .i64 0))] ⟨(keep_clear (s := s) (pk := [2]) h1 rfl rfl), rfl, rfl⟩ ?_
  rintro s ⟨h1, h2, h4⟩
  refine .nsq ?_
  refine .seq ?_
  refine run_reg ?_
  refine e_end ?_
  refine g_v1 (t := 2) (u := (.ref (.bx 2) 0 [] (.agg [(.int .i64 a_1.1), (Enc.enc (a_1.2 : List (Int × Int)))]))) (.ref (.bx 2) 0 [1] (Enc.enc (a_1.2 : List (Int × Int)))) h2 rfl rfl ?_
  refine g_v1 (t := 5) (u := (.ref (.bx 2) 0 [1] (Enc.enc (a_1.2 : List (Int × Int))))) (Enc.enc (a_1.2 : List (Int × Int))) rfl rfl rfl ?_
  refine g_v1 (t := 1) (u := (.int .i64 left_2)) (.int .i64 left_2) h1 rfl rfl ?_
  obtain ⟨r_3, E_r_3, h⟩ := bind_some h
  refine g_call (m := 0) (al := false) (r := (Enc.enc (r_3 : Int))) [Enc.enc (a_1.2 : (List (Int × Int))), Enc.enc (left_2 : Int)] (ta_cons (v := (Enc.enc (a_1.2 : List (Int × Int)))) rfl rfl (Enc.erase_enc (a_1.2 : (List (Int × Int)))) (ta_cons (v := (.int .i64 left_2)) rfl rfl rfl ta_nil)) (H.c47 _ _ _ E_r_3) H.g47 rfl rfl rfl rfl ?_
  refine g_v1 (t := 8) (u := (.int .i64 r_3)) (.int .i64 r_3) rfl rfl rfl ?_
  refine g_end ?_
  refine e_end ?_
  refine renew [(1, (.int .i64 r_3)), (4, (.int .i64 0))] ⟨rfl, h4⟩ ?_
  rintro s ⟨h1, h4⟩
  refine .nsq ?_
  refine .seq ?_
  refine .seq ?_
  refine run_reg ?_
  refine e_end ?_
  refine g_v1 (t := 1) (u := (.int .i64 r_3)) (.int .i64 r_3) h1 rfl rfl ?_
  refine g_v1 (t := 9) (u := (.int .i64 r_3)) (.bool (decide (r_3 < 0))) rfl rfl rfl ?_
  refine g_end ?_
  refine e_end ?_
  refine renew [(1, (.int .i64 r_3)), (4, (.int .i64 0)), (10, (.bool (decide (r_3 < 0))))] ⟨h1, h4, rfl⟩ ?_
  rintro s ⟨h1, h4, h10⟩
  refine .nsq ?_
  refine run_cond (t := decide (r_3 < 0)) h10 h (fun h => ?_) (fun h => ?_)
  · refine .seq ?_
    refine run_reg ?_
    refine e_end ?_
    refine g_v0 (.int .i64 (-1)) rfl rfl ?_
    refine g_end ?_
    refine e_end ?_
    refine renew [(1, (.int .i64 r_3)), (4, (.int .i64 (-1)))] ⟨h1, rfl⟩ ?_
    rintro s ⟨h1, h4⟩
    refine .nsq ?_
    refine .ret ?_
    have hr := Option.some.inj h
    subst hr
    exact rrA (res_tmp h4) rfl
  · refine .skip ?_
    refine .nsq ?_
    refine .seq ?_
    refine run_reg ?_
    refine e_end ?_
    refine g_v1 (t := 1) (u := (.int .i64 r_3)) (.int .i64 r_3) h1 rfl rfl ?_
    refine g_v1 (t := 11) (u := (.int .i64 r_3)) (.int .i64 r_3) rfl rfl rfl ?_
    refine g_end ?_
    refine e_end ?_
    refine renew [(4, (.int .i64 r_3))] rfl ?_
    rintro s h4
    refine .nsq ?_
    refine .ret ?_
    have hr := Option.some.inj h
    subst hr
    exact rrA (res_tmp h4) rfl
end
def e15 (F : Nat) : Ent := ⟨15, da (fun (x : ((Int × (List (Int × Int))) × Int × Unit)) => w_szGraph F x.1 x.2.1) (fun (r : Int) => (Enc.enc (r : Int))), 0, false, selF []⟩
theorem p15 {F : Nat} {x0 : (Int × (List (Int × Int)))} {x1 : Int} {r : Int} (h : w_szGraph F x0 x1 = some r) : (e15 F).den [Enc.enc x0, Enc.enc x1] = some (Enc.enc (r : Int)) := da_put (f := fun (x : ((Int × (List (Int × Int))) × Int × Unit)) => w_szGraph F x.1 x.2.1) (t := fun (r : Int) => (Enc.enc (r : Int))) (x0, x1, ()) h
theorem o15 {D : Den} {σ : Sig} {F : Nat} (hF : Fits2 Try.prog D σ) (H : H15 D σ F) : (e15 F).Ok Try.prog := by
  refine ok_of (f := 15) (show unk 15 = 15 from rfl) (fun args r h => ?_) ⟨Try.f15, Try.func15, rfl, rfl⟩
  obtain ⟨⟨x0, x1, _⟩, y, rfl, hy, rfl⟩ := da_open h
  exact contract_run hF (by kernel_rfl) Try.func15 rfl c15 (show 2 ≤ Try.f15.ntmps by decide) (t15 H x0 x1 _ ⟨rfl, rfl⟩ hy)
/- loop.example/g01109/laws.toIntA2 -/
def A99_2 : AC := (.cond (.t 6) .skip (.exit 0))
def A99_4 : AC := (.reg [] [(.mk (some 7) none false (.v (.mov (.t 4)))), (.mk (some 8) none false (.v (.bin .add (.t 7) (.k (.int .i64 (.ofNat 1)))))), (.mk (some 4) none false (.v (.mov (.t 8))))] [])
def A99_3 : AC := (.seq (.block 1 (.reg [] [(.mk (some 9) none false (.v (.mov (.t 4)))), (.mk (some 10) none false (.v (.mov (.t 4)))), (.mk (some 11) none false (.v (.idxA (.t 1) (.t 10) 2 1))), (.mk (some 12) none false (.v (.load .s (.t 11)))), (.mk (some 13) none false (.v (.idxA (.t 3) (.t 9) 2 1))), (.mk none none false (.store .s (.t 13) (.t 12)))] [])) A99_4)
def A99_1 : AC := (.seq (.seq (.reg [] [(.mk (some 5) none false (.v (.mov (.t 4)))), (.mk (some 6) none false (.v (.bin .lss (.t 5) (.k (.int .i64 (.ofNat 2))))))] []) A99_2) A99_3)
def A99_5 : AC := (.seq (.reg [] [(.mk (some 14) none false (.v (.load (.ag [.s, .s]) (.t 3)))), (.mk none none false (.store (.ag [.s, .s]) (.t 2) (.t 14)))] []) .ret)
def A99_8 : AC := (.block 0 (.loop A99_1))
def A99_7 : AC := (.seq (.seq (.reg [] [(.mk (some 4) none false (.v (.mov (.k (.int .i64 (.ofNat 0))))))] []) A99_8) A99_5)
def A99_6 : AC := (.seq (.reg [.clr [3]] [(.mk (some 3) none false (.alloc (.agg [(.int .i64 (.ofNat 0)), (.int .i64 (.ofNat 0))])))] []) A99_7)
def A99 : AC := (.seq (.reg [.clr [1, 2]] [(.mk (some 1) none false (.box (.t 0))), (.mk (some 2) none false (.alloc (.agg [(.int .i64 (.ofNat 0)), (.int .i64 (.ofNat 0))])))] []) A99_6)
def an99 : List An := [{ id := 0, pre := [.clr [1, 2]], ep := [], lin := [], sp := [] }, { id := 1, pre := [.clr [3]], ep := [], lin := [], sp := [] }]
theorem c99 : cC Try.prog Try.f99.ntmps an99 (Try.f99.body.getD .skip) = some A99 := by kernel_rfl
structure H99 (D : Den) (σ : Sig) (F : Nat) : Prop where
  mk ::
abbrev R99 (r : (Int × Int)) : (Nat → V) → Prop := RR Try.prog [.cell 2 75] 0 false (Enc.enc (r : (Int × Int)))
section
variable {D : Den} {σ : Sig} {F : Nat} {r : (Int × Int)}
def w_toIntA2_l1 (F : Nat) (a_1 : (Int × Int))  : Nat → Int → Int → Int → Option (Int × Int)
  | 0, _, _, _ => none
  | k + 1, out_2, i_3, out_6 =>
    bif decide (i_3 < 2) then
      (idx [a_1.1, a_1.2] i_3).bind fun e_9 =>
      (idx [out_2, out_6] i_3).bind fun e_10 =>
      (w_toIntA2_l1 F a_1 k) (bif i_3 == 0 then e_9 else out_2) (w64 (i_3 + 1)) (bif i_3 == 1 then e_9 else out_6)
    else
      some (out_2, out_6)
theorem t_f99_l1 (H : H99 D σ F) (a_1 : (Int × Int))  : ∀ (k : Nat) (out_2 : Int) (i_3 : Int) (out_6 : Int) (s : Nat → V), Facts [(1, (.ref (.bx 1) 0 [] (.agg [(.int .i64 a_1.1), (.int .i64 a_1.2)]))), (2, (.ref (.bx 2) 0 [] (.agg [(.int .i64 0), (.int .i64 0)]))), (3, (.ref (.bx 3) 0 [] (.agg [(.int .i64 out_2), (.int .i64 out_6)]))), (4, (.int .i64 i_3))] s → w_toIntA2_l1 F a_1 k out_2 i_3 out_6 = some r → Run D σ (R99 r) (.run A99_1 [.lp A99_1, .bk 0, .sq A99_5]) s := by
  intro k
  induction k with
  | zero => intro out_2 i_3 out_6 s _ h; exact nomatch (h : (none : Option _) = some r)
  | succ k ih =>
    intro out_2 i_3 out_6 s hs h
    rw [w_toIntA2_l1] at h
    obtain ⟨h1, h2, h3, h4⟩ := hs
    refine .seq ?_
    refine .seq ?_
    refine run_reg ?_
    refine e_end ?_
    refine g_v1 (t := 4) (u := (.int .i64 i_3)) (.int .i64 i_3) h4 rfl rfl ?_
    refine g_v1 (t := 5) (u := (.int .i64 i_3)) (.bool (decide (i_3 < 2))) rfl rfl rfl ?_
    refine g_end ?_
    refine e_end ?_
    refine renew [(1, (.ref (.bx 1) 0 [] (.agg [(.int .i64 a_1.1), (.int .i64 a_1.2)]))), (2, (.ref (.bx 2) 0 [] (.agg [(.int .i64 0), (.int .i64 0)]))), (3, (.ref (.bx 3) 0 [] (.agg [(.int .i64 out_2), (.int .i64 out_6)]))), (4, (.int .i64 i_3)), (6, (.bool (decide (i_3 < 2))))] ⟨h1, h2, h3, h4, rfl⟩ ?_
    rintro s ⟨h1, h2, h3, h4, h6⟩
    refine .nsq ?_
    refine run_cond (t := decide (i_3 < 2)) h6 h (fun h => ?_) (fun h => ?_)
    · refine .skip ?_
      refine .nsq ?_
      refine .seq ?_
      refine .block ?_
      refine run_reg ?_
      refine e_end ?_
      refine g_v1 (t := 4) (u := (.int .i64 i_3)) (.int .i64 i_3) h4 rfl rfl ?_
      refine g_v1 (t := 4) (u := (.int .i64 i_3)) (.int .i64 i_3) h4 rfl rfl ?_
      obtain ⟨e_9, E_e_9, h⟩ := bind_some h
      refine g_v (.ref (.bx 1) 0 [i_3.toNat] (.int .i64 e_9)) (ev_idxA (xs := [a_1.1, a_1.2]) (a := e_9) (n := i_3) (q := []) h1 rfl E_e_9 rfl rfl rfl) ?_
      refine g_v1 (t := 11) (u := (.ref (.bx 1) 0 [i_3.toNat] (.int .i64 e_9))) (.int .i64 e_9) rfl rfl rfl ?_
      obtain ⟨e_10, E_e_10, h⟩ := bind_some h
      refine g_v (.ref (.bx 3) 0 [i_3.toNat] (.int .i64 e_10)) (ev_idxA (xs := [out_2, out_6]) (a := e_10) (n := i_3) (q := []) h3 rfl E_e_10 rfl rfl rfl) ?_
      refine g_store (.int .i64 e_9) (rd_of rfl rfl) (rd_of rfl rfl) (by refine ⟨by decide, by decide, rfl, rfl, rfl, ?_⟩; first | rfl | simp [V.toks, V.tokss, Enc.toks_enc]) ?_
      refine g_end ?_
      refine e_end ?_
      refine renew [(1, (.ref (.bx 1) 0 [] (.agg [(.int .i64 a_1.1), (.int .i64 a_1.2)]))), (2, (.ref (.bx 2) 0 [] (.agg [(.int .i64 0), (.int .i64 0)]))), (3, (.ref (.bx 3) 0 [] (.agg [(.int .i64 (bif i_3 == 0 then e_9 else out_2)), (.int .i64 (bif i_3 == 1 then e_9 else out_6))]))), (4, (.int .i64 i_3))] ⟨(keep_mut h1 rfl), (keep_mut h2 rfl), (keep_mut h3 (mut_ix2 E_e_10 rfl)), (keep_mut h4 rfl)⟩ ?_
      rintro s ⟨h1, h2, h3, h4⟩
      refine .nbk ?_
      refine .nsq ?_
      refine run_reg ?_
      refine e_end ?_
      refine g_v1 (t := 4) (u := (.int .i64 i_3)) (.int .i64 i_3) h4 rfl rfl ?_
      refine g_v1 (t := 7) (u := (.int .i64 i_3)) (.int .i64 (w64 (i_3 + 1))) rfl rfl rfl ?_
      refine g_v1 (t := 8) (u := (.int .i64 (w64 (i_3 + 1)))) (.int .i64 (w64 (i_3 + 1))) rfl rfl rfl ?_
      refine g_end ?_
      refine e_end ?_
      refine renew [(1, (.ref (.bx 1) 0 [] (.agg [(.int .i64 a_1.1), (.int .i64 a_1.2)]))), (2, (.ref (.bx 2) 0 [] (.agg [(.int .i64 0), (.int .i64 0)]))), (3, (.ref (.bx 3) 0 [] (.agg [(.int .i64 (bif i_3 == 0 then e_9 else out_2)), (.int .i64 (bif i_3 == 1 then e_9 else out_6))]))), (4, (.int .i64 (w64 (i_3 + 1))))] ⟨h1, h2, h3, rfl⟩ ?_
      rintro s ⟨h1, h2, h3, h4⟩
      refine .nlp ?_
      exact ih (bif i_3 == 0 then e_9 else out_2) (w64 (i_3 + 1)) (bif i_3 == 1 then e_9 else out_6) _ ⟨h1, h2, h3, h4⟩ h
    · refine .exit ?_
      refine .esq ?_
      refine .elp ?_
      refine .ebk ?_
      refine .nsq ?_
      refine .seq ?_
      refine run_reg ?_
      refine e_end ?_
      refine g_v1 (t := 3) (u := (.ref (.bx 3) 0 [] (.agg [(.int .i64 out_2), (.int .i64 out_6)]))) (.agg [(.int .i64 out_2), (.int .i64 out_6)]) h3 rfl rfl ?_
      refine g_store (.agg [(.int .i64 out_2), (.int .i64 out_6)]) (rd_of h2 rfl) (rd_of rfl rfl) (by refine ⟨by decide, by decide, rfl, rfl, rfl, ?_⟩; first | rfl | simp [V.toks, V.tokss, Enc.toks_enc]) ?_
      refine g_end ?_
      refine e_end ?_
      refine renew [(2, (.ref (.bx 2) 0 [] (.agg [(.int .i64 out_2), (.int .i64 out_6)])))] (keep_mut h2 rfl) ?_
      rintro s h2
      refine .nsq ?_
      refine .ret ?_
      have hr := Option.some.inj h
      subst hr
      exact rrA (res_cell h2 (by kernel_rfl)) rfl
def w_toIntA2 (F : Nat) (a_1 : (Int × Int)) : Option (Int × Int) :=
  w_toIntA2_l1 F a_1 F 0 0 0
theorem t99 (H : H99 D σ F) (a_1 : (Int × Int)) (s : Nat → V) (hs : Facts [(0, (.agg [(.int .i64 a_1.1), (.int .i64 a_1.2)]))] s) (h : w_toIntA2 F a_1 = some r) : Run D σ (R99 r) (.run A99 []) s := by
  unfold w_toIntA2 at h
  have h0 := hs
  refine .seq ?_
  refine run_reg ?_
  refine e_clr ?_
  refine e_end ?_
  refine g_box (.agg [(.int .i64 a_1.1), (.int .i64 a_1.2)]) (rd_of (keep_clear (s := s) (pk := [1, 2]) h0 rfl (map_agg (maps_cons rfl (maps_cons rfl maps_nil)))) rfl) (gone_clear (s := s) (pk := [1, 2]) (t := 1) rfl) rfl ?_
  refine g_alloc (gone_clear (s := s) (pk := [1, 2]) (t := 2) rfl) ?_
  refine g_end ?_
  refine e_end ?_
  refine renew [(1, (.ref (.bx 1) 0 [] (.agg [(.int .i64 a_1.1), (.int .i64 a_1.2)]))), (2, (.ref (.bx 2) 0 [] (.agg [(.int .i64 0), (.int .i64 0)])))] ⟨rfl, rfl⟩ ?_
  rintro s ⟨h1, h2⟩
  refine .nsq ?_
  refine .seq ?_
  refine run_reg ?_
  refine e_clr ?_
  refine e_end ?_
  refine g_alloc (gone_clear (s := s) (pk := [3]) (t := 3) rfl) ?_
  refine g_end ?_
  refine e_end ?_
  refine renew [(1, (.ref (.bx 1) 0 [] (.agg [(.int .i64 a_1.1), (.int .i64 a_1.2)]))), (2, (.ref (.bx 2) 0 [] (.agg [(.int .i64 0), (.int .i64 0)]))), (3, (.ref (.bx 3) 0 [] (.agg [(.int .i64 0), (.int .i64 0)])))] ⟨(keep_clear (s := s) (pk := [3]) h1 rfl (map_bx rfl (map_agg (maps_cons rfl (maps_cons rfl maps_nil))))), (keep_clear (s := s) (pk := [3]) h2 rfl (map_bx rfl (map_agg (maps_cons rfl (maps_cons rfl maps_nil))))), rfl⟩ ?_
  rintro s ⟨h1, h2, h3⟩
  refine .nsq ?_
  refine .seq ?_
  refine .seq ?_
  refine run_reg ?_
  refine e_end ?_
  refine g_v0 (.int .i64 0) rfl rfl ?_
  refine g_end ?_
  refine e_end ?_
  refine renew [(1, (.ref (.bx 1) 0 [] (.agg [(.int .i64 a_1.1), (.int .i64 a_1.2)]))), (2, (.ref (.bx 2) 0 [] (.agg [(.int .i64 0), (.int .i64 0)]))), (3, (.ref (.bx 3) 0 [] (.agg [(.int .i64 0), (.int .i64 0)]))), (4, (.int .i64 0))] ⟨h1, h2, h3, rfl⟩ ?_
  rintro s ⟨h1, h2, h3, h4⟩
  refine .nsq ?_
  refine .block ?_
  refine .loop ?_
  exact t_f99_l1 H a_1 F 0 0 0 _ ⟨h1, h2, h3, h4⟩ h
end
def e99 (F : Nat) : Ent := ⟨99, da (fun (x : ((Int × Int) × Unit)) => w_toIntA2 F x.1) (fun (r : (Int × Int)) => (Enc.enc (r : (Int × Int)))), 0, false, selF []⟩
theorem p99 {F : Nat} {x0 : (Int × Int)} {r : (Int × Int)} (h : w_toIntA2 F x0 = some r) : (e99 F).den [Enc.enc x0] = some (Enc.enc (r : (Int × Int))) := da_put (f := fun (x : ((Int × Int) × Unit)) => w_toIntA2 F x.1) (t := fun (r : (Int × Int)) => (Enc.enc (r : (Int × Int)))) (x0, ()) h
theorem o99 {D : Den} {σ : Sig} {F : Nat} (hF : Fits2 Try.prog D σ) (H : H99 D σ F) : (e99 F).Ok Try.prog := by
  refine ok_of (f := 99) (show unk 99 = 99 from rfl) (fun args r h => ?_) ⟨Try.f99, Try.func99, rfl, rfl⟩
  obtain ⟨⟨x0, _⟩, y, rfl, hy, rfl⟩ := da_open h
  exact contract_run hF (by kernel_rfl) Try.func99 rfl c99 (show 1 ≤ Try.f99.ntmps by decide) (t99 H x0 _ rfl hy)
/- loop.example/g01109/laws.toIntA2S -/
def A50_2 : AC := (.cond (.t 11) .skip (.exit 0))
def A50_4 : AC := (.reg [] [(.mk (some 12) none false (.v (.mov (.t 4)))), (.mk (some 13) none false (.v (.bin .add (.t 12) (.k (.int .i64 (.ofNat 1)))))), (.mk (some 4) none false (.v (.mov (.t 13))))] [])
def A50_3 : AC := (.seq (.block 1 (.reg [] [(.mk (some 14) none false (.v (.mov (.t 3)))), (.mk (some 15) none false (.v (.mov (.t 4)))), (.mk (some 16) none false (.v (.mov (.t 0)))), (.mk (some 17) none false (.v (.mov (.t 4)))), (.mk (some 18) none false (.v (.idx (.t 16) (.t 17) 2))), (.mk (some 19) none false (.v (.load (.ag [.s, .s]) (.t 18)))), (.mk (some 20) none false (.call (.k (.fn 99 [] [])) [(.t 19)])), (.mk (some 21) none false (.v (.idx (.t 14) (.t 15) 2))), (.mk none none false (.store (.ag [.s, .s]) (.t 21) (.t 20)))] [])) A50_4)
def A50_1 : AC := (.seq (.seq (.reg [] [(.mk (some 8) none false (.v (.mov (.t 4)))), (.mk (some 9) none false (.v (.mov (.t 0)))), (.mk (some 10) none false (.v (.len (.t 9)))), (.mk (some 11) none false (.v (.bin .lss (.t 8) (.t 10))))] []) A50_2) A50_3)
def A50_5 : AC := (.seq (.reg [] [(.mk (some 22) none false (.v (.mov (.t 3)))), (.mk (some 2) none false (.v (.mov (.t 22))))] [.home 3 2]) .ret)
def A50_8 : AC := (.block 0 (.loop A50_1))
def A50_7 : AC := (.seq (.seq (.reg [] [(.mk (some 4) none false (.v (.mov (.k (.int .i64 (.ofNat 0))))))] []) A50_8) A50_5)
def A50_6 : AC := (.seq (.reg [.clr [7]] [(.mk (some 5) none false (.v (.mov (.t 0)))), (.mk (some 6) none false (.v (.len (.t 5)))), (.mk (some 7) none false (.mk (.t 6) (.agg [(.int .i64 (.ofNat 0)), (.int .i64 (.ofNat 0))]))), (.mk (some 3) none false (.v (.mov (.t 7))))] [.home 7 3]) A50_7)
def A50 : AC := (.seq (.reg [] [(.mk (some 2) none false (.v (.mov (.k (.sl .nl (.ag [.s, .s]) 0 [])))))] []) A50_6)
def an50 : List An := [{ id := 1, pre := [.clr [7]], ep := [.home 7 3], lin := [], sp := [] }, { id := 6, pre := [], ep := [.home 3 2], lin := [], sp := [] }]
theorem c50 : cC Try.prog Try.f50.ntmps an50 (Try.f50.body.getD .skip) = some A50 := by kernel_rfl
structure H50 (D : Den) (σ : Sig) (F : Nat) : Prop where
  c99 : ∀ (x0 : (Int × Int)) r, w_toIntA2 F x0 = some r → D 99 [Enc.enc x0] = some (Enc.enc (r : (Int × Int)))
  g99 : σ 99 = some (0, false)
abbrev R50 (r : (List (Int × Int))) : (Nat → V) → Prop := RR Try.prog [.tmp 2] 0 false (Enc.enc (r : (List (Int × Int))))
section
variable {D : Den} {σ : Sig} {F : Nat} {r : (List (Int × Int))}
def w_toIntA2S_l1 (F : Nat) (a_1 : (List (Int × Int)))  : Nat → (List (Int × Int)) → Int → Option (List (Int × Int))
  | 0, _, _ => none
  | k + 1, out_6, i_7 =>
    bif decide (i_7 < (a_1.length : Int)) then
      (idx a_1 i_7).bind fun e_11 =>
      (w_toIntA2 F e_11).bind fun r_12 =>
      (idx out_6 i_7).bind fun e_13 =>
      (w_toIntA2S_l1 F a_1 k) (out_6.set i_7.toNat r_12) (w64 (i_7 + 1))
    else
      some out_6
theorem t_f50_l1 (H : H50 D σ F) (a_1 : (List (Int × Int)))  : ∀ (k : Nat) (out_6 : (List (Int × Int))) (i_7 : Int) (s : Nat → V), Facts [(0, (Enc.enc (a_1 : List (Int × Int)))), (2, (.sl .nl (Enc.shp (Int × Int)) 0 [])), (3, (encO (.at 3 []) (.of (out_6 : List (Int × Int))))), (4, (.int .i64 i_7))] s → w_toIntA2S_l1 F a_1 k out_6 i_7 = some r → Run D σ (R50 r) (.run A50_1 [.lp A50_1, .bk 0, .sq A50_5]) s := by
  intro k
  induction k with
  | zero => intro out_6 i_7 s _ h; exact nomatch (h : (none : Option _) = some r)
  | succ k ih =>
    intro out_6 i_7 s hs h
    rw [w_toIntA2S_l1] at h
    obtain ⟨h0, h2, h3, h4⟩ := hs
    refine .seq ?_
    refine .seq ?_
    refine run_reg ?_
    refine e_end ?_
    refine g_v1 (t := 4) (u := (.int .i64 i_7)) (.int .i64 i_7) h4 rfl rfl ?_
    refine g_v1 (t := 0) (u := (Enc.enc (a_1 : List (Int × Int)))) (Enc.enc (a_1 : List (Int × Int))) h0 rfl rfl ?_
    refine g_v (.int .i64 (a_1.length : Int)) (ev_len (xs := a_1) rfl) ?_
    refine g_v2 (t1 := 8) (t2 := 10) (u1 := (.int .i64 i_7)) (u2 := (.int .i64 (a_1.length : Int))) (.bool (decide (i_7 < (a_1.length : Int)))) rfl rfl rfl rfl ?_
    refine g_end ?_
    refine e_end ?_
    refine renew [(0, (Enc.enc (a_1 : List (Int × Int)))), (2, (.sl .nl (Enc.shp (Int × Int)) 0 [])), (3, (encO (.at 3 []) (.of (out_6 : List (Int × Int))))), (4, (.int .i64 i_7)), (11, (.bool (decide (i_7 < (a_1.length : Int)))))] ⟨h0, h2, h3, h4, rfl⟩ ?_
    rintro s ⟨h0, h2, h3, h4, h11⟩
    refine .nsq ?_
    refine run_cond (t := decide (i_7 < (a_1.length : Int))) h11 h (fun h => ?_) (fun h => ?_)
    · refine .skip ?_
      refine .nsq ?_
      refine .seq ?_
      refine .block ?_
      refine run_reg ?_
      refine e_end ?_
      refine g_v1 (t := 3) (u := (encO (.at 3 []) (.of (out_6 : List (Int × Int))))) (encO (.at 3 []) (.of (out_6 : List (Int × Int)))) h3 rfl rfl ?_
      refine g_v1 (t := 4) (u := (.int .i64 i_7)) (.int .i64 i_7) h4 rfl rfl ?_
      refine g_v1 (t := 0) (u := (Enc.enc (a_1 : List (Int × Int)))) (Enc.enc (a_1 : List (Int × Int))) h0 rfl rfl ?_
      refine g_v1 (t := 4) (u := (.int .i64 i_7)) (.int .i64 i_7) h4 rfl rfl ?_
      obtain ⟨e_11, E_e_11, h⟩ := bind_some h
      refine g_v (.ref .sh 0 [] (.agg [(.int .i64 e_11.1), (.int .i64 e_11.2)])) (ev_idx (t := .sh) (lo := 0) (xs := a_1) rfl rfl E_e_11 rfl rfl) ?_
      refine g_v1 (t := 18) (u := (.ref .sh 0 [] (.agg [(.int .i64 e_11.1), (.int .i64 e_11.2)]))) (.agg [(.int .i64 e_11.1), (.int .i64 e_11.2)]) rfl rfl rfl ?_
      obtain ⟨r_12, E_r_12, h⟩ := bind_some h
      refine g_call (m := 0) (al := false) (r := (Enc.enc (r_12 : (Int × Int)))) [Enc.enc (e_11 : (Int × Int))] (ta_cons (v := (.agg [(.int .i64 e_11.1), (.int .i64 e_11.2)])) rfl rfl (Enc.erase_enc (e_11 : (Int × Int))) ta_nil) (H.c99 _ _ E_r_12) H.g99 rfl rfl rfl rfl ?_
      obtain ⟨e_13, E_e_13, h⟩ := bind_some h
      refine g_v (.ref (.at 3 []) i_7.toNat [] (.agg [(.int .i64 e_13.1), (.int .i64 e_13.2)])) (ev_idxO (o := (.of out_6)) rfl rfl E_e_13 rfl) ?_
      refine g_store (.agg [(.int .i64 r_12.1), (.int .i64 r_12.2)]) (rd_of rfl rfl) (rd_of rfl rfl) (by refine ⟨by decide, by decide, rfl, rfl, rfl, ?_⟩; first | rfl | simp [V.toks, V.tokss, Enc.toks_enc]) ?_
      refine g_end ?_
      refine e_end ?_
      refine renew [(0, (Enc.enc (a_1 : List (Int × Int)))), (2, (.sl .nl (Enc.shp (Int × Int)) 0 [])), (3, (encO (.at 3 []) (.of (out_6.set i_7.toNat r_12 : List (Int × Int))))), (4, (.int .i64 i_7))] ⟨(keep_mut h0 (Enc.mut_enc _ _ _ _ (a_1 : List (Int × Int)))), (keep_mut h2 rfl), (keep_mut h3 mut_own), (keep_mut h4 rfl)⟩ ?_
      rintro s ⟨h0, h2, h3, h4⟩
      refine .nbk ?_
      refine .nsq ?_
      refine run_reg ?_
      refine e_end ?_
      refine g_v1 (t := 4) (u := (.int .i64 i_7)) (.int .i64 i_7) h4 rfl rfl ?_
      refine g_v1 (t := 12) (u := (.int .i64 i_7)) (.int .i64 (w64 (i_7 + 1))) rfl rfl rfl ?_
      refine g_v1 (t := 13) (u := (.int .i64 (w64 (i_7 + 1)))) (.int .i64 (w64 (i_7 + 1))) rfl rfl rfl ?_
      refine g_end ?_
      refine e_end ?_
      refine renew [(0, (Enc.enc (a_1 : List (Int × Int)))), (2, (.sl .nl (Enc.shp (Int × Int)) 0 [])), (3, (encO (.at 3 []) (.of (out_6.set i_7.toNat r_12 : List (Int × Int))))), (4, (.int .i64 (w64 (i_7 + 1))))] ⟨h0, h2, h3, rfl⟩ ?_
      rintro s ⟨h0, h2, h3, h4⟩
      refine .nlp ?_
      exact ih (out_6.set i_7.toNat r_12) (w64 (i_7 + 1)) _ ⟨h0, h2, h3, h4⟩ h
    · refine .exit ?_
      refine .esq ?_
      refine .elp ?_
      refine .ebk ?_
      refine .nsq ?_
      refine .seq ?_
      refine run_reg ?_
      refine e_end ?_
      refine g_v1 (t := 3) (u := (encO (.at 3 []) (.of (out_6 : List (Int × Int))))) (encO (.at 3 []) (.of (out_6 : List (Int × Int)))) h3 rfl rfl ?_
      refine g_v1 (t := 22) (u := (encO (.at 3 []) (.of (out_6 : List (Int × Int))))) (encO (.at 3 []) (.of (out_6 : List (Int × Int)))) rfl rfl rfl ?_
      refine g_end ?_
      refine e_home (r := 3) (x := 2) (v := (encO (.at 3 []) (.of (out_6 : List (Int × Int))))) (by exact rfl) rfl (fun s_3 hg_3 => ?_)
      refine e_end ?_
      refine renew [(2, (encO (.at 2 []) (.of (out_6 : List (Int × Int)))))] (hg_3 2 (encO (.at 3 []) (.of (out_6 : List (Int × Int)))) (encO (.at 2 []) (.of (out_6 : List (Int × Int)))) rfl (map_encO (r := 3) (p := []) rfl rfl)) ?_
      rintro s h2
      refine .nsq ?_
      refine .ret ?_
      have hr := Option.some.inj h
      subst hr
      exact rrA (res_tmp h2) (fin_retF (fin_own (o := .of out_6)) (mine_own rfl))
def w_toIntA2S (F : Nat) (a_1 : (List (Int × Int))) : Option (List (Int × Int)) :=
  (mkN (a_1.length : Int) (0, 0)).bind fun mk_2 =>
  w_toIntA2S_l1 F a_1 F mk_2 0
theorem t50 (H : H50 D σ F) (a_1 : (List (Int × Int))) (s : Nat → V) (hs : Facts [(0, (Enc.enc (a_1 : List (Int × Int))))] s) (h : w_toIntA2S F a_1 = some r) : Run D σ (R50 r) (.run A50 []) s := by
  unfold w_toIntA2S at h
  have h0 := hs
  refine .seq ?_
  refine run_reg ?_
  refine e_end ?_
  refine g_v0 (.sl .nl (Enc.shp (Int × Int)) 0 []) rfl rfl ?_
  refine g_end ?_
  refine e_end ?_
  refine renew [(0, (Enc.enc (a_1 : List (Int × Int)))), (2, (.sl .nl (Enc.shp (Int × Int)) 0 []))] ⟨h0, rfl⟩ ?_
  rintro s ⟨h0, h2⟩
  refine .nsq ?_
  refine .seq ?_
  refine run_reg ?_
  refine e_clr ?_
  refine e_end ?_
  refine g_v1 (t := 0) (u := (Enc.enc (a_1 : List (Int × Int)))) (Enc.enc (a_1 : List (Int × Int))) (keep_clear (s := s) (pk := [7]) h0 rfl (Enc.map_enc _ (a_1 : List (Int × Int)))) rfl rfl ?_
  refine g_v (.int .i64 (a_1.length : Int)) (ev_len (xs := a_1) rfl) ?_
  obtain ⟨mk_2, E_mk_2, h⟩ := bind_some h
  refine g_mk ((0, 0) : (Int × Int)) rfl rfl (gone_clear (s := s) (pk := [7]) (t := 7) rfl) E_mk_2 ?_
  refine g_v1 (t := 7) (u := (encO (.at 7 []) (.of (mk_2 : List (Int × Int))))) (encO (.at 7 []) (.of (mk_2 : List (Int × Int)))) rfl rfl rfl ?_
  refine g_end ?_
  refine e_home (r := 7) (x := 3) (v := (encO (.at 7 []) (.of (mk_2 : List (Int × Int))))) (by exact rfl) rfl (fun s_2 hg_2 => ?_)
  refine e_end ?_
  refine renew [(0, (Enc.enc (a_1 : List (Int × Int)))), (2, (.sl .nl (Enc.shp (Int × Int)) 0 [])), (3, (encO (.at 3 []) (.of (mk_2 : List (Int × Int)))))] ⟨(hg_2 0 (Enc.enc (a_1 : List (Int × Int))) (Enc.enc (a_1 : List (Int × Int))) (keep_clear (s := s) (pk := [7]) h0 rfl (Enc.map_enc _ (a_1 : List (Int × Int)))) (Enc.map_enc _ (a_1 : List (Int × Int)))), (hg_2 2 (.sl .nl (Enc.shp (Int × Int)) 0 []) (.sl .nl (Enc.shp (Int × Int)) 0 []) (keep_clear (s := s) (pk := [7]) h2 rfl rfl) rfl), (hg_2 3 (encO (.at 7 []) (.of (mk_2 : List (Int × Int)))) (encO (.at 3 []) (.of (mk_2 : List (Int × Int)))) rfl (map_encO (r := 7) (p := []) rfl rfl))⟩ ?_
  rintro s ⟨h0, h2, h3⟩
  refine .nsq ?_
  refine .seq ?_
  refine .seq ?_
  refine run_reg ?_
  refine e_end ?_
  refine g_v0 (.int .i64 0) rfl rfl ?_
  refine g_end ?_
  refine e_end ?_
  refine renew [(0, (Enc.enc (a_1 : List (Int × Int)))), (2, (.sl .nl (Enc.shp (Int × Int)) 0 [])), (3, (encO (.at 3 []) (.of (mk_2 : List (Int × Int))))), (4, (.int .i64 0))] ⟨h0, h2, h3, rfl⟩ ?_
  rintro s ⟨h0, h2, h3, h4⟩
  refine .nsq ?_
  refine .block ?_
  refine .loop ?_
  exact t_f50_l1 H a_1 F mk_2 0 _ ⟨h0, h2, h3, h4⟩ h
end
def e50 (F : Nat) : Ent := ⟨50, da (fun (x : ((List (Int × Int)) × Unit)) => w_toIntA2S F x.1) (fun (r : (List (Int × Int))) => (Enc.enc (r : (List (Int × Int))))), 0, false, selF []⟩
theorem p50 {F : Nat} {x0 : (List (Int × Int))} {r : (List (Int × Int))} (h : w_toIntA2S F x0 = some r) : (e50 F).den [Enc.enc x0] = some (Enc.enc (r : (List (Int × Int)))) := da_put (f := fun (x : ((List (Int × Int)) × Unit)) => w_toIntA2S F x.1) (t := fun (r : (List (Int × Int))) => (Enc.enc (r : (List (Int × Int))))) (x0, ()) h
theorem o50 {D : Den} {σ : Sig} {F : Nat} (hF : Fits2 Try.prog D σ) (H : H50 D σ F) : (e50 F).Ok Try.prog := by
  refine ok_of (f := 50) (show unk 50 = 50 from rfl) (fun args r h => ?_) ⟨Try.f50, Try.func50, rfl, rfl⟩
  obtain ⟨⟨x0, _⟩, y, rfl, hy, rfl⟩ := da_open h
  exact contract_run hF (by kernel_rfl) Try.func50 rfl c50 (show 1 ≤ Try.f50.ntmps by decide) (t50 H x0 _ rfl hy)
/- loop.example/g01109/laws.toGraph -/
def A17_4 : AC := (.seq (.reg [] [(.mk (some 11) none false (.v (.load (.ag [.s, .p]) (.t 3)))), (.mk none none false (.store (.ag [.s, .p]) (.t 2) (.t 11)))] []) .ret)
def A17_3 : AC := (.seq (.reg [] [(.mk (some 7) none false (.v (.fld (.t 1) 1 1))), (.mk (some 8) none false (.v (.load .p (.t 7)))), (.mk (some 9) none false (.call (.k (.fn 50 [] [])) [(.t 8)])), (.mk (some 10) none false (.v (.fld (.t 3) 1 1))), (.mk none none false (.store .p (.t 10) (.t 9)))] []) A17_4)
def A17_2 : AC := (.seq (.reg [] [(.mk (some 4) none false (.v (.fld (.t 1) 0 0))), (.mk (some 5) none false (.v (.load .s (.t 4)))), (.mk (some 6) none false (.v (.fld (.t 3) 0 0))), (.mk none none false (.store .s (.t 6) (.t 5)))] []) A17_3)
def A17_1 : AC := (.seq (.reg [.clr [3]] [(.mk (some 3) none false (.alloc (.agg [(.int .i64 (.ofNat 0)), (.sl .nl (.ag [.s, .s]) 0 [])])))] []) A17_2)
def A17 : AC := (.seq (.reg [.clr [1, 2]] [(.mk (some 1) none false (.box (.t 0))), (.mk (some 2) none false (.alloc (.agg [(.int .i64 (.ofNat 0)), (.sl .nl (.ag [.s, .s]) 0 [])])))] []) A17_1)
def an17 : List An := [{ id := 0, pre := [.clr [1, 2]], ep := [], lin := [], sp := [] }, { id := 1, pre := [.clr [3]], ep := [], lin := [], sp := [] }]
theorem c17 : cC Try.prog Try.f17.ntmps an17 (Try.f17.body.getD .skip) = some A17 := by kernel_rfl
structure H17 (D : Den) (σ : Sig) (F : Nat) : Prop where
  c50 : ∀ (x0 : (List (Int × Int))) r, w_toIntA2S F x0 = some r → D 50 [Enc.enc x0] = some (Enc.enc (r : (List (Int × Int))))
  g50 : σ 50 = some (0, false)
abbrev R17 (r : (Int × (List (Int × Int)))) : (Nat → V) → Prop := RR Try.prog [.cell 2 29] 0 true (Enc.enc (r : (Int × (List (Int × Int)))))
section
variable {D : Den} {σ : Sig} {F : Nat} {r : (Int × (List (Int × Int)))}
def w_toGraph (F : Nat) (a_1 : (Int × (List (Int × Int)))) : Option (Int × (List (Int × Int))) :=
  (w_toIntA2S F a_1.2).bind fun r_2 =>
  some (a_1.1, r_2)
theorem t17 (H : H17 D σ F) (a_1 : (Int × (List (Int × Int)))) (s : Nat → V) (hs : Facts [(0, (.agg [(.int .i64 a_1.1), (Enc.enc (a_1.2 : List (Int × Int)))]))] s) (h : w_toGraph F a_1 = some r) : Run D σ (R17 r) (.run A17 []) s := by
  unfold w_toGraph at h
  have h0 := hs
  refine .seq ?_
  refine run_reg ?_
  refine e_clr ?_
  refine e_end ?_
  refine g_box (.agg [(.int .i64 a_1.1), (Enc.enc (a_1.2 : List (Int × Int)))]) (rd_of (keep_clear (s := s) (pk := [1, 2]) h0 rfl (map_agg (maps_cons rfl (maps_cons (Enc.map_enc _ (a_1.2 : List (Int × Int))) maps_nil)))) rfl) (gone_clear (s := s) (pk := [1, 2]) (t := 1) rfl) rfl ?_
  refine g_alloc (gone_clear (s := s) (pk := [1, 2]) (t := 2) rfl) ?_
  refine g_end ?_
  refine e_end ?_
  refine renew [(1, (.ref (.bx 1) 0 [] (.agg [(.int .i64 a_1.1), (Enc.enc (a_1.2 : List (Int × Int)))]))), (2, (.ref (.bx 2) 0 [] (.agg [(.int .i64 0), (.sl .nl (Enc.shp (Int × Int)) 0 [])])))] ⟨rfl, rfl⟩ ?_
  rintro s ⟨h1, h2⟩
  refine .nsq ?_
  refine .seq ?_
  refine run_reg ?_
  refine e_clr ?_
  refine e_end ?_
  refine g_alloc (gone_clear (s := s) (pk := [3]) (t := 3) rfl) ?_
  refine g_end ?_
  refine e_end ?_
  refine renew [(1, (.ref (.bx 1) 0 [] (.agg [(.int .i64 a_1.1), (Enc.enc (a_1.2 : List (Int × Int)))]))), (2, (.ref (.bx 2) 0 [] (.agg [(.int .i64 0), (.sl .nl (Enc.shp (Int × Int)) 0 [])]))), (3, (.ref (.bx 3) 0 [] (.agg [(.int .i64 0), (.sl .nl (Enc.shp (Int × Int)) 0 [])])))] ⟨(keep_clear (s := s) (pk := [3]) h1 rfl (map_bx rfl (map_agg (maps_cons rfl (maps_cons (Enc.map_enc _ (a_1.2 : List (Int × Int))) maps_nil))))), (keep_clear (s := s) (pk := [3]) h2 rfl (map_bx rfl (map_agg (maps_cons rfl (maps_cons rfl maps_nil))))), rfl⟩ ?_
  rintro s ⟨h1, h2, h3⟩
  refine .nsq ?_
  refine .seq ?_
  refine run_reg ?_
  refine e_end ?_
  refine g_v1 (t := 1) (u := (.ref (.bx 1) 0 [] (.agg [(.int .i64 a_1.1), (Enc.enc (a_1.2 : List (Int × Int)))]))) (.ref (.bx 1) 0 [0] (.int .i64 a_1.1)) h1 rfl rfl ?_
  refine g_v1 (t := 4) (u := (.ref (.bx 1) 0 [0] (.int .i64 a_1.1))) (.int .i64 a_1.1) rfl rfl rfl ?_
  refine g_v1 (t := 3) (u := (.ref (.bx 3) 0 [] (.agg [(.int .i64 0), (.sl .nl (Enc.shp (Int × Int)) 0 [])]))) (.ref (.bx 3) 0 [0] (.int .i64 0)) h3 rfl rfl ?_
  refine g_store (.int .i64 a_1.1) (rd_of rfl rfl) (rd_of rfl rfl) (by refine ⟨by decide, by decide, rfl, rfl, rfl, ?_⟩; first | rfl | simp [V.toks, V.tokss, Enc.toks_enc]) ?_
  refine g_end ?_
  refine e_end ?_
  refine renew [(1, (.ref (.bx 1) 0 [] (.agg [(.int .i64 a_1.1), (Enc.enc (a_1.2 : List (Int × Int)))]))), (2, (.ref (.bx 2) 0 [] (.agg [(.int .i64 0), (.sl .nl (Enc.shp (Int × Int)) 0 [])]))), (3, (.ref (.bx 3) 0 [] (.agg [(.int .i64 a_1.1), (.sl .nl (Enc.shp (Int × Int)) 0 [])])))] ⟨(keep_mut h1 (mut_ref_ne rfl rfl (mut_agg (muts_cons rfl (muts_cons (Enc.mut_enc _ _ _ _ (a_1.2 : List (Int × Int))) rfl))))), (keep_mut h2 (mut_ref_ne rfl rfl (mut_agg (muts_cons rfl (muts_cons rfl rfl))))), (keep_mut h3 rfl)⟩ ?_
  rintro s ⟨h1, h2, h3⟩
  refine .nsq ?_
  refine .seq ?_
  refine run_reg ?_
  refine e_end ?_
  refine g_v1 (t := 1) (u := (.ref (.bx 1) 0 [] (.agg [(.int .i64 a_1.1), (Enc.enc (a_1.2 : List (Int × Int)))]))) (.ref (.bx 1) 0 [1] (Enc.enc (a_1.2 : List (Int × Int)))) h1 rfl rfl ?_
  refine g_v1 (t := 7) (u := (.ref (.bx 1) 0 [1] (Enc.enc (a_1.2 : List (Int × Int))))) (Enc.enc (a_1.2 : List (Int × Int))) rfl rfl rfl ?_
  obtain ⟨r_2, E_r_2, h⟩ := bind_some h
  refine g_call (m := 0) (al := false) (r := (Enc.enc (r_2 : (List (Int × Int))))) [Enc.enc (a_1.2 : (List (Int × Int)))] (ta_cons (v := (Enc.enc (a_1.2 : List (Int × Int)))) rfl rfl (Enc.erase_enc (a_1.2 : (List (Int × Int)))) ta_nil) (H.c50 _ _ E_r_2) H.g50 rfl rfl rfl rfl ?_
  refine g_v1 (t := 3) (u := (.ref (.bx 3) 0 [] (.agg [(.int .i64 a_1.1), (.sl .nl (Enc.shp (Int × Int)) 0 [])]))) (.ref (.bx 3) 0 [1] (.sl .nl (Enc.shp (Int × Int)) 0 [])) h3 rfl rfl ?_
  refine g_store (Enc.enc (r_2 : List (Int × Int))) (rd_of rfl rfl) (rd_of rfl rfl) (by refine ⟨by decide, by decide, rfl, rfl, rfl, ?_⟩; first | rfl | simp [V.toks, V.tokss, Enc.toks_enc]) ?_
  refine g_end ?_
  refine e_end ?_
  refine renew [(2, (.ref (.bx 2) 0 [] (.agg [(.int .i64 0), (.sl .nl (Enc.shp (Int × Int)) 0 [])]))), (3, (.ref (.bx 3) 0 [] (.agg [(.int .i64 a_1.1), (Enc.enc (r_2 : List (Int × Int)))])))] ⟨(keep_mut h2 (mut_ref_ne rfl rfl (mut_agg (muts_cons rfl (muts_cons rfl rfl))))), (keep_mut h3 rfl)⟩ ?_
  rintro s ⟨h2, h3⟩
  refine .nsq ?_
  refine .seq ?_
  refine run_reg ?_
  refine e_end ?_
  refine g_v1 (t := 3) (u := (.ref (.bx 3) 0 [] (.agg [(.int .i64 a_1.1), (Enc.enc (r_2 : List (Int × Int)))]))) (.agg [(.int .i64 a_1.1), (Enc.enc (r_2 : List (Int × Int)))]) h3 rfl rfl ?_
  refine g_store (.agg [(.int .i64 a_1.1), (Enc.enc (r_2 : List (Int × Int)))]) (rd_of h2 rfl) (rd_of rfl rfl) (by refine ⟨by decide, by decide, rfl, rfl, rfl, ?_⟩; first | rfl | simp [V.toks, V.tokss, Enc.toks_enc]) ?_
  refine g_end ?_
  refine e_end ?_
  refine renew [(2, (.ref (.bx 2) 0 [] (.agg [(.int .i64 a_1.1), (Enc.enc (r_2 : List (Int × Int)))])))] (keep_mut h2 rfl) ?_
  rintro s h2
  refine .nsq ?_
  refine .ret ?_
  have hr := Option.some.inj h
  subst hr
  exact rrA (res_cell h2 (by kernel_rfl)) (fin_ret1 (fin_enc (x := ((a_1.1, r_2) : (Int × (List (Int × Int)))))))
end
def e17 (F : Nat) : Ent := ⟨17, da (fun (x : ((Int × (List (Int × Int))) × Unit)) => w_toGraph F x.1) (fun (r : (Int × (List (Int × Int)))) => (Enc.enc (r : (Int × (List (Int × Int)))))), 0, true, selF []⟩
theorem p17 {F : Nat} {x0 : (Int × (List (Int × Int)))} {r : (Int × (List (Int × Int)))} (h : w_toGraph F x0 = some r) : (e17 F).den [Enc.enc x0] = some (Enc.enc (r : (Int × (List (Int × Int))))) := da_put (f := fun (x : ((Int × (List (Int × Int))) × Unit)) => w_toGraph F x.1) (t := fun (r : (Int × (List (Int × Int)))) => (Enc.enc (r : (Int × (List (Int × Int)))))) (x0, ()) h
theorem o17 {D : Den} {σ : Sig} {F : Nat} (hF : Fits2 Try.prog D σ) (H : H17 D σ F) : (e17 F).Ok Try.prog := by
  refine ok_of (f := 17) (show unk 17 = 17 from rfl) (fun args r h => ?_) ⟨Try.f17, Try.func17, rfl, rfl⟩
  obtain ⟨⟨x0, _⟩, y, rfl, hy, rfl⟩ := da_open h
  exact contract_run hF (by kernel_rfl) Try.func17 rfl c17 (show 1 ≤ Try.f17.ntmps by decide) (t17 H x0 _ rfl hy)
/- loop.example/g01109/spec.l1In -/
def A95_1 : AC := (.seq (.reg [] [(.mk (some 7) none false (.v (.mov (.t 0)))), (.mk (some 8) none false (.v (.mov (.t 1)))), (.mk (some 9) none false (.v (.bin .geq (.t 7) (.t 8)))), (.mk (some 10) none false (.v (.mov (.t 9)))), (.mk (some 11) (some (10, true)) false (.v (.mov (.t 0)))), (.mk (some 12) (some (10, true)) false (.v (.mov (.t 2)))), (.mk (some 13) (some (10, true)) false (.v (.bin .leq (.t 11) (.t 12)))), (.mk (some 14) none false (.v (.pick (.t 10) (.t 13) (.k (.bool false))))), (.mk (some 6) none false (.v (.mov (.t 14))))] []) .ret)
def A95 : AC := (.seq (.reg [] [(.mk (some 6) none false (.v (.mov (.k (.bool false)))))] []) A95_1)
def an95 : List An := []
theorem c95 : cC Try.prog Try.f95.ntmps an95 (Try.f95.body.getD .skip) = some A95 := by kernel_rfl
structure H95 (D : Den) (σ : Sig) (F : Nat) : Prop where
  mk ::
abbrev R95 (r : Bool) : (Nat → V) → Prop := RR Try.prog [.tmp 6] 0 false (Enc.enc (r : Bool))
section
variable {D : Den} {σ : Sig} {F : Nat} {r : Bool}
def s_l1In (F : Nat) (x_1 : Int) (a_2 : Int) (b_3 : Int) : Option Bool :=
  bif decide (x_1 ≥ a_2) then
    some (decide (x_1 ≤ b_3))
  else
    some false
theorem t95 (H : H95 D σ F) (x_1 : Int) (a_2 : Int) (b_3 : Int) (s : Nat → V) (hs : Facts [(0, (.int .i64 x_1)), (1, (.int .i64 a_2)), (2, (.int .i64 b_3))] s) (h : s_l1In F x_1 a_2 b_3 = some r) : Run D σ (R95 r) (.run A95 []) s := by
  unfold s_l1In at h
  obtain ⟨h0, h1, h2⟩ := hs
  refine .seq ?_
  refine run_reg ?_
  refine e_end ?_
  refine g_v0 (.bool false) rfl rfl ?_
  refine g_end ?_
  refine e_end ?_
  refine renew [(0, (.int .i64 x_1)), (1, (.int .i64 a_2)), (2, (.int .i64 b_3)), (6, (.bool false))] ⟨h0, h1, h2, rfl⟩ ?_
  rintro s ⟨h0, h1, h2, h6⟩
  refine .nsq ?_
  refine .seq ?_
  refine run_reg ?_
  refine e_end ?_
  refine g_v1 (t := 0) (u := (.int .i64 x_1)) (.int .i64 x_1) h0 rfl rfl ?_
  refine g_v1 (t := 1) (u := (.int .i64 a_2)) (.int .i64 a_2) h1 rfl rfl ?_
  refine g_v2 (t1 := 7) (t2 := 8) (u1 := (.int .i64 x_1)) (u2 := (.int .i64 a_2)) (.bool (decide (x_1 ≥ a_2))) rfl rfl rfl rfl ?_
  refine g_v1 (t := 9) (u := (.bool (decide (x_1 ≥ a_2)))) (.bool (decide (x_1 ≥ a_2))) rfl rfl rfl ?_
  refine split_on (c := decide (x_1 ≥ a_2)) h (fun hg4 h => ?_) (fun hg4 h => ?_)
  · refine g_yes (Eq.trans (b := .bool (decide (x_1 ≥ a_2))) rfl (congrArg V.bool hg4)) (g_v1 (t := 0) (u := (.int .i64 x_1)) (.int .i64 x_1) h0 rfl rfl ?_)
    refine g_yes (Eq.trans (b := .bool (decide (x_1 ≥ a_2))) rfl (congrArg V.bool hg4)) (g_v1 (t := 2) (u := (.int .i64 b_3)) (.int .i64 b_3) h2 rfl rfl ?_)
    refine g_yes (Eq.trans (b := .bool (decide (x_1 ≥ a_2))) rfl (congrArg V.bool hg4)) (g_v2 (t1 := 11) (t2 := 12) (u1 := (.int .i64 x_1)) (u2 := (.int .i64 b_3)) (.bool (decide (x_1 ≤ b_3))) rfl rfl rfl rfl ?_)
    refine g_v2 (t1 := 10) (t2 := 13) (u1 := (.bool true)) (u2 := (.bool (decide (x_1 ≤ b_3)))) (.bool (decide (x_1 ≤ b_3))) (Eq.trans (b := .bool (decide (x_1 ≥ a_2))) rfl (congrArg V.bool hg4)) rfl rfl rfl ?_
    refine g_v1 (t := 14) (u := (.bool (decide (x_1 ≤ b_3)))) (.bool (decide (x_1 ≤ b_3))) rfl rfl rfl ?_
    refine g_end ?_
    refine e_end ?_
    refine renew [(6, (.bool (decide (x_1 ≤ b_3))))] rfl ?_
    rintro s h6
    refine .nsq ?_
    refine .ret ?_
    have hr := Option.some.inj h
    subst hr
    exact rrA (res_tmp h6) rfl
  · refine g_no (Eq.trans (b := .bool (decide (x_1 ≥ a_2))) rfl (congrArg V.bool hg4)) ?_
    refine g_no (Eq.trans (b := .bool (decide (x_1 ≥ a_2))) rfl (congrArg V.bool hg4)) ?_
    refine g_no (Eq.trans (b := .bool (decide (x_1 ≥ a_2))) rfl (congrArg V.bool hg4)) ?_
    refine g_v2 (t1 := 10) (t2 := 13) (u1 := (.bool false)) (u2 := (.tup [])) (.bool false) (Eq.trans (b := .bool (decide (x_1 ≥ a_2))) rfl (congrArg V.bool hg4)) rfl rfl rfl ?_
    refine g_v1 (t := 14) (u := (.bool false)) (.bool false) rfl rfl rfl ?_
    refine g_end ?_
    refine e_end ?_
    refine renew [(6, (.bool false))] rfl ?_
    rintro s h6
    refine .nsq ?_
    refine .ret ?_
    have hr := Option.some.inj h
    subst hr
    exact rrA (res_tmp h6) rfl
end
def e95 (F : Nat) : Ent := ⟨95, da (fun (x : (Int × Int × Int × Unit)) => s_l1In F x.1 x.2.1 x.2.2.1) (fun (r : Bool) => (Enc.enc (r : Bool))), 0, false, selF []⟩
theorem p95 {F : Nat} {x0 : Int} {x1 : Int} {x2 : Int} {r : Bool} (h : s_l1In F x0 x1 x2 = some r) : (e95 F).den [Enc.enc x0, Enc.enc x1, Enc.enc x2] = some (Enc.enc (r : Bool)) := da_put (f := fun (x : (Int × Int × Int × Unit)) => s_l1In F x.1 x.2.1 x.2.2.1) (t := fun (r : Bool) => (Enc.enc (r : Bool))) (x0, x1, x2, ()) h
theorem o95 {D : Den} {σ : Sig} {F : Nat} (hF : Fits2 Try.prog D σ) (H : H95 D σ F) : (e95 F).Ok Try.prog := by
  refine ok_of (f := 95) (show unk 95 = 95 from rfl) (fun args r h => ?_) ⟨Try.f95, Try.func95, rfl, rfl⟩
  obtain ⟨⟨x0, x1, x2, _⟩, y, rfl, hy, rfl⟩ := da_open h
  exact contract_run hF (by kernel_rfl) Try.func95 rfl c95 (show 3 ≤ Try.f95.ntmps by decide) (t95 H x0 x1 x2 _ ⟨rfl, rfl, rfl⟩ hy)
/- loop.example/g01109/spec.l2Before -/
def A96_1 : AC := (.seq (.reg [] [(.mk (some 5) none false (.v (.idxA (.t 2) (.k (.int .i64 (.ofNat 0))) 2 1))), (.mk (some 6) none false (.v (.load .s (.t 5)))), (.mk (some 7) none false (.v (.idxA (.t 3) (.k (.int .i64 (.ofNat 0))) 2 1))), (.mk (some 8) none false (.v (.load .s (.t 7)))), (.mk (some 9) none false (.v (.bin .lss (.t 6) (.t 8)))), (.mk (some 10) none false (.v (.mov (.t 9)))), (.mk (some 11) (some (10, false)) false (.v (.idxA (.t 2) (.k (.int .i64 (.ofNat 0))) 2 1))), (.mk (some 12) (some (10, false)) false (.v (.load .s (.t 11)))), (.mk (some 13) (some (10, false)) false (.v (.idxA (.t 3) (.k (.int .i64 (.ofNat 0))) 2 1))), (.mk (some 14) (some (10, false)) false (.v (.load .s (.t 13)))), (.mk (some 15) (some (10, false)) false (.v (.bin .eql (.t 12) (.t 14)))), (.mk (some 16) (some (10, false)) false (.v (.mov (.t 15)))), (.mk (some 17) (some (16, true)) false (.v (.idxA (.t 2) (.k (.int .i64 (.ofNat 1))) 2 1))), (.mk (some 18) (some (16, true)) false (.v (.load .s (.t 17)))), (.mk (some 19) (some (16, true)) false (.v (.idxA (.t 3) (.k (.int .i64 (.ofNat 1))) 2 1))), (.mk (some 20) (some (16, true)) false (.v (.load .s (.t 19)))), (.mk (some 21) (some (16, true)) false (.v (.bin .lss (.t 18) (.t 20)))), (.mk (some 22) (some (10, false)) false (.v (.pick (.t 16) (.t 21) (.k (.bool false))))), (.mk (some 23) none false (.v (.pick (.t 10) (.k (.bool true)) (.t 22)))), (.mk (some 4) none false (.v (.mov (.t 23))))] []) .ret)
def A96 : AC := (.seq (.reg [.clr [2, 3]] [(.mk (some 2) none false (.box (.t 0))), (.mk (some 3) none false (.box (.t 1))), (.mk (some 4) none false (.v (.mov (.k (.bool false)))))] []) A96_1)
def an96 : List An := [{ id := 0, pre := [.clr [2, 3]], ep := [], lin := [], sp := [] }]
theorem c96 : cC Try.prog Try.f96.ntmps an96 (Try.f96.body.getD .skip) = some A96 := by kernel_rfl
structure H96 (D : Den) (σ : Sig) (F : Nat) : Prop where
  mk ::
abbrev R96 (r : Bool) : (Nat → V) → Prop := RR Try.prog [.tmp 4] 0 false (Enc.enc (r : Bool))
section
variable {D : Den} {σ : Sig} {F : Nat} {r : Bool}
def s_l2Before (F : Nat) (a_1 : (Int × Int)) (b_2 : (Int × Int)) : Option Bool :=
  bif decide (a_1.1 < b_2.1) then
    some true
  else
    bif (a_1.1 == b_2.1) then
      some (decide (a_1.2 < b_2.2))
    else
      some false
theorem t96 (H : H96 D σ F) (a_1 : (Int × Int)) (b_2 : (Int × Int)) (s : Nat → V) (hs : Facts [(0, (.agg [(.int .i64 a_1.1), (.int .i64 a_1.2)])), (1, (.agg [(.int .i64 b_2.1), (.int .i64 b_2.2)]))] s) (h : s_l2Before F a_1 b_2 = some r) : Run D σ (R96 r) (.run A96 []) s := by
  unfold s_l2Before at h
  obtain ⟨h0, h1⟩ := hs
  refine .seq ?_
  refine run_reg ?_
  refine e_clr ?_
  refine e_end ?_
  refine g_box (.agg [(.int .i64 a_1.1), (.int .i64 a_1.2)]) (rd_of (keep_clear (s := s) (pk := [2, 3]) h0 rfl (map_agg (maps_cons rfl (maps_cons rfl maps_nil)))) rfl) (gone_clear (s := s) (pk := [2, 3]) (t := 2) rfl) rfl ?_
  refine g_box (.agg [(.int .i64 b_2.1), (.int .i64 b_2.2)]) (rd_of (keep_clear (s := s) (pk := [2, 3]) h1 rfl (map_agg (maps_cons rfl (maps_cons rfl maps_nil)))) rfl) (gone_clear (s := s) (pk := [2, 3]) (t := 3) rfl) rfl ?_
  refine g_v0 (.bool false) rfl rfl ?_
  refine g_end ?_
  refine e_end ?_
  refine renew [(2, (.ref (.bx 2) 0 [] (.agg [(.int .i64 a_1.1), (.int .i64 a_1.2)]))), (3, (.ref (.bx 3) 0 [] (.agg [(.int .i64 b_2.1), (.int .i64 b_2.2)]))), (4, (.bool false))] ⟨rfl, rfl, rfl⟩ ?_
  rintro s ⟨h2, h3, h4⟩
  refine .nsq ?_
  refine .seq ?_
  refine run_reg ?_
  refine e_end ?_
  refine g_v1 (t := 2) (u := (.ref (.bx 2) 0 [] (.agg [(.int .i64 a_1.1), (.int .i64 a_1.2)]))) (.ref (.bx 2) 0 [0] (.int .i64 a_1.1)) h2 rfl rfl ?_
  refine g_v1 (t := 5) (u := (.ref (.bx 2) 0 [0] (.int .i64 a_1.1))) (.int .i64 a_1.1) rfl rfl rfl ?_
  refine g_v1 (t := 3) (u := (.ref (.bx 3) 0 [] (.agg [(.int .i64 b_2.1), (.int .i64 b_2.2)]))) (.ref (.bx 3) 0 [0] (.int .i64 b_2.1)) h3 rfl rfl ?_
  refine g_v1 (t := 7) (u := (.ref (.bx 3) 0 [0] (.int .i64 b_2.1))) (.int .i64 b_2.1) rfl rfl rfl ?_
  refine g_v2 (t1 := 6) (t2 := 8) (u1 := (.int .i64 a_1.1)) (u2 := (.int .i64 b_2.1)) (.bool (decide (a_1.1 < b_2.1))) rfl rfl rfl rfl ?_
  refine g_v1 (t := 9) (u := (.bool (decide (a_1.1 < b_2.1)))) (.bool (decide (a_1.1 < b_2.1))) rfl rfl rfl ?_
  refine split_on (c := decide (a_1.1 < b_2.1)) h (fun hg6 h => ?_) (fun hg6 h => ?_)
  · refine g_no (Eq.trans (b := .bool (decide (a_1.1 < b_2.1))) rfl (congrArg V.bool hg6)) ?_
    refine g_no (Eq.trans (b := .bool (decide (a_1.1 < b_2.1))) rfl (congrArg V.bool hg6)) ?_
    refine g_no (Eq.trans (b := .bool (decide (a_1.1 < b_2.1))) rfl (congrArg V.bool hg6)) ?_
    refine g_no (Eq.trans (b := .bool (decide (a_1.1 < b_2.1))) rfl (congrArg V.bool hg6)) ?_
    refine g_no (Eq.trans (b := .bool (decide (a_1.1 < b_2.1))) rfl (congrArg V.bool hg6)) ?_
    refine g_no (Eq.trans (b := .bool (decide (a_1.1 < b_2.1))) rfl (congrArg V.bool hg6)) ?_
    refine g_skip rfl ?_
    refine g_skip rfl ?_
    refine g_skip rfl ?_
    refine g_skip rfl ?_
    refine g_skip rfl ?_
    refine g_no (Eq.trans (b := .bool (decide (a_1.1 < b_2.1))) rfl (congrArg V.bool hg6)) ?_
    refine g_v2 (t1 := 10) (t2 := 22) (u1 := (.bool true)) (u2 := (.tup [])) (.bool true) (Eq.trans (b := .bool (decide (a_1.1 < b_2.1))) rfl (congrArg V.bool hg6)) rfl rfl rfl ?_
    refine g_v1 (t := 23) (u := (.bool true)) (.bool true) rfl rfl rfl ?_
    refine g_end ?_
    refine e_end ?_
    refine renew [(4, (.bool true))] rfl ?_
    rintro s h4
    refine .nsq ?_
    refine .ret ?_
    have hr := Option.some.inj h
    subst hr
    exact rrA (res_tmp h4) rfl
  · refine g_yes (Eq.trans (b := .bool (decide (a_1.1 < b_2.1))) rfl (congrArg V.bool hg6)) (g_v1 (t := 2) (u := (.ref (.bx 2) 0 [] (.agg [(.int .i64 a_1.1), (.int .i64 a_1.2)]))) (.ref (.bx 2) 0 [0] (.int .i64 a_1.1)) h2 rfl rfl ?_)
    refine g_yes (Eq.trans (b := .bool (decide (a_1.1 < b_2.1))) rfl (congrArg V.bool hg6)) (g_v1 (t := 11) (u := (.ref (.bx 2) 0 [0] (.int .i64 a_1.1))) (.int .i64 a_1.1) rfl rfl rfl ?_)
    refine g_yes (Eq.trans (b := .bool (decide (a_1.1 < b_2.1))) rfl (congrArg V.bool hg6)) (g_v1 (t := 3) (u := (.ref (.bx 3) 0 [] (.agg [(.int .i64 b_2.1), (.int .i64 b_2.2)]))) (.ref (.bx 3) 0 [0] (.int .i64 b_2.1)) h3 rfl rfl ?_)
    refine g_yes (Eq.trans (b := .bool (decide (a_1.1 < b_2.1))) rfl (congrArg V.bool hg6)) (g_v1 (t := 13) (u := (.ref (.bx 3) 0 [0] (.int .i64 b_2.1))) (.int .i64 b_2.1) rfl rfl rfl ?_)
    refine g_yes (Eq.trans (b := .bool (decide (a_1.1 < b_2.1))) rfl (congrArg V.bool hg6)) (g_v2 (t1 := 12) (t2 := 14) (u1 := (.int .i64 a_1.1)) (u2 := (.int .i64 b_2.1)) (.bool (a_1.1 == b_2.1)) rfl rfl rfl rfl ?_)
    refine g_yes (Eq.trans (b := .bool (decide (a_1.1 < b_2.1))) rfl (congrArg V.bool hg6)) (g_v1 (t := 15) (u := (.bool (a_1.1 == b_2.1))) (.bool (a_1.1 == b_2.1)) rfl rfl rfl ?_)
    refine split_on (c := (a_1.1 == b_2.1)) h (fun hg12 h => ?_) (fun hg12 h => ?_)
    · refine g_yes (Eq.trans (b := .bool (a_1.1 == b_2.1)) rfl (congrArg V.bool hg12)) (g_v1 (t := 2) (u := (.ref (.bx 2) 0 [] (.agg [(.int .i64 a_1.1), (.int .i64 a_1.2)]))) (.ref (.bx 2) 0 [1] (.int .i64 a_1.2)) h2 rfl rfl ?_)
      refine g_yes (Eq.trans (b := .bool (a_1.1 == b_2.1)) rfl (congrArg V.bool hg12)) (g_v1 (t := 17) (u := (.ref (.bx 2) 0 [1] (.int .i64 a_1.2))) (.int .i64 a_1.2) rfl rfl rfl ?_)
      refine g_yes (Eq.trans (b := .bool (a_1.1 == b_2.1)) rfl (congrArg V.bool hg12)) (g_v1 (t := 3) (u := (.ref (.bx 3) 0 [] (.agg [(.int .i64 b_2.1), (.int .i64 b_2.2)]))) (.ref (.bx 3) 0 [1] (.int .i64 b_2.2)) h3 rfl rfl ?_)
      refine g_yes (Eq.trans (b := .bool (a_1.1 == b_2.1)) rfl (congrArg V.bool hg12)) (g_v1 (t := 19) (u := (.ref (.bx 3) 0 [1] (.int .i64 b_2.2))) (.int .i64 b_2.2) rfl rfl rfl ?_)
      refine g_yes (Eq.trans (b := .bool (a_1.1 == b_2.1)) rfl (congrArg V.bool hg12)) (g_v2 (t1 := 18) (t2 := 20) (u1 := (.int .i64 a_1.2)) (u2 := (.int .i64 b_2.2)) (.bool (decide (a_1.2 < b_2.2))) rfl rfl rfl rfl ?_)
      refine g_yes (Eq.trans (b := .bool (decide (a_1.1 < b_2.1))) rfl (congrArg V.bool hg6)) (g_v2 (t1 := 16) (t2 := 21) (u1 := (.bool true)) (u2 := (.bool (decide (a_1.2 < b_2.2)))) (.bool (decide (a_1.2 < b_2.2))) (Eq.trans (b := .bool (a_1.1 == b_2.1)) rfl (congrArg V.bool hg12)) rfl rfl rfl ?_)
      refine g_v2 (t1 := 10) (t2 := 22) (u1 := (.bool false)) (u2 := (.bool (decide (a_1.2 < b_2.2)))) (.bool (decide (a_1.2 < b_2.2))) (Eq.trans (b := .bool (decide (a_1.1 < b_2.1))) rfl (congrArg V.bool hg6)) rfl rfl rfl ?_
      refine g_v1 (t := 23) (u := (.bool (decide (a_1.2 < b_2.2)))) (.bool (decide (a_1.2 < b_2.2))) rfl rfl rfl ?_
      refine g_end ?_
      refine e_end ?_
      refine renew [(4, (.bool (decide (a_1.2 < b_2.2))))] rfl ?_
      rintro s h4
      refine .nsq ?_
      refine .ret ?_
      have hr := Option.some.inj h
      subst hr
      exact rrA (res_tmp h4) rfl
    · refine g_no (Eq.trans (b := .bool (a_1.1 == b_2.1)) rfl (congrArg V.bool hg12)) ?_
      refine g_no (Eq.trans (b := .bool (a_1.1 == b_2.1)) rfl (congrArg V.bool hg12)) ?_
      refine g_no (Eq.trans (b := .bool (a_1.1 == b_2.1)) rfl (congrArg V.bool hg12)) ?_
      refine g_no (Eq.trans (b := .bool (a_1.1 == b_2.1)) rfl (congrArg V.bool hg12)) ?_
      refine g_no (Eq.trans (b := .bool (a_1.1 == b_2.1)) rfl (congrArg V.bool hg12)) ?_
      refine g_yes (Eq.trans (b := .bool (decide (a_1.1 < b_2.1))) rfl (congrArg V.bool hg6)) (g_v2 (t1 := 16) (t2 := 21) (u1 := (.bool false)) (u2 := (.tup [])) (.bool false) (Eq.trans (b := .bool (a_1.1 == b_2.1)) rfl (congrArg V.bool hg12)) rfl rfl rfl ?_)
      refine g_v2 (t1 := 10) (t2 := 22) (u1 := (.bool false)) (u2 := (.bool false)) (.bool false) (Eq.trans (b := .bool (decide (a_1.1 < b_2.1))) rfl (congrArg V.bool hg6)) rfl rfl rfl ?_
      refine g_v1 (t := 23) (u := (.bool false)) (.bool false) rfl rfl rfl ?_
      refine g_end ?_
      refine e_end ?_
      refine renew [(4, (.bool false))] rfl ?_
      rintro s h4
      refine .nsq ?_
      refine .ret ?_
      have hr := Option.some.inj h
      subst hr
      exact rrA (res_tmp h4) rfl
end
def e96 (F : Nat) : Ent := ⟨96, da (fun (x : ((Int × Int) × (Int × Int) × Unit)) => s_l2Before F x.1 x.2.1) (fun (r : Bool) => (Enc.enc (r : Bool))), 0, false, selF []⟩
theorem p96 {F : Nat} {x0 : (Int × Int)} {x1 : (Int × Int)} {r : Bool} (h : s_l2Before F x0 x1 = some r) : (e96 F).den [Enc.enc x0, Enc.enc x1] = some (Enc.enc (r : Bool)) := da_put (f := fun (x : ((Int × Int) × (Int × Int) × Unit)) => s_l2Before F x.1 x.2.1) (t := fun (r : Bool) => (Enc.enc (r : Bool))) (x0, x1, ()) h
theorem o96 {D : Den} {σ : Sig} {F : Nat} (hF : Fits2 Try.prog D σ) (H : H96 D σ F) : (e96 F).Ok Try.prog := by
  refine ok_of (f := 96) (show unk 96 = 96 from rfl) (fun args r h => ?_) ⟨Try.f96, Try.func96, rfl, rfl⟩
  obtain ⟨⟨x0, x1, _⟩, y, rfl, hy, rfl⟩ := da_open h
  exact contract_run hF (by kernel_rfl) Try.func96 rfl c96 (show 2 ≤ Try.f96.ntmps by decide) (t96 H x0 x1 _ ⟨rfl, rfl⟩ hy)
/- loop.example/g01109/spec.l2Good -/
def A48_2 : AC := (.cond (.t 9) .skip (.exit 0))
def A48_5 : AC := (.cond (.t 54) (.seq (.reg [] [(.mk (some 2) none false (.v (.mov (.k (.bool false)))))] []) .ret) .skip)
def A48_4 : AC := (.seq (.reg [] [(.mk (some 17) none false (.v (.idxA (.t 4) (.k (.int .i64 (.ofNat 0))) 2 1))), (.mk (some 18) none false (.v (.load .s (.t 17)))), (.mk (some 19) none false (.v (.fld (.t 1) 0 0))), (.mk (some 20) none false (.v (.load .s (.t 19)))), (.mk (some 21) none false (.v (.bin .sub (.t 20) (.k (.int .i64 (.ofNat 1)))))), (.mk (some 22) none false (.call (.k (.fn 95 [] [])) [(.t 18), (.k (.int .i64 (.ofNat 0))), (.t 21)])), (.mk (some 23) none false (.v (.un .not (.t 22)))), (.mk (some 24) none false (.v (.mov (.t 23)))), (.mk (some 25) (some (24, false)) false (.v (.idxA (.t 4) (.k (.int .i64 (.ofNat 1))) 2 1))), (.mk (some 26) (some (24, false)) false (.v (.load .s (.t 25)))), (.mk (some 27) (some (24, false)) false (.v (.fld (.t 1) 0 0))), (.mk (some 28) (some (24, false)) false (.v (.load .s (.t 27)))), (.mk (some 29) (some (24, false)) false (.v (.bin .sub (.t 28) (.k (.int .i64 (.ofNat 1)))))), (.mk (some 30) (some (24, false)) false (.call (.k (.fn 95 [] [])) [(.t 26), (.k (.int .i64 (.ofNat 0))), (.t 29)])), (.mk (some 31) (some (24, false)) false (.v (.un .not (.t 30)))), (.mk (some 32) none false (.v (.pick (.t 24) (.k (.bool true)) (.t 31)))), (.mk (some 33) none false (.v (.mov (.t 32)))), (.mk (some 34) (some (33, false)) false (.v (.idxA (.t 4) (.k (.int .i64 (.ofNat 0))) 2 1))), (.mk (some 35) (some (33, false)) false (.v (.load .s (.t 34)))), (.mk (some 36) (some (33, false)) false (.v (.idxA (.t 4) (.k (.int .i64 (.ofNat 1))) 2 1))), (.mk (some 37) (some (33, false)) false (.v (.load .s (.t 36)))), (.mk (some 38) (some (33, false)) false (.v (.bin .geq (.t 35) (.t 37)))), (.mk (some 39) none false (.v (.pick (.t 33) (.k (.bool true)) (.t 38)))), (.mk (some 40) none false (.v (.mov (.t 39)))), (.mk (some 41) (some (40, false)) false (.v (.mov (.t 3)))), (.mk (some 42) (some (40, false)) false (.v (.bin .gtr (.t 41) (.k (.int .i64 (.ofNat 0)))))), (.mk (some 43) (some (40, false)) false (.v (.mov (.t 42)))), (.mk (some 44) (some (43, true)) false (.v (.fld (.t 1) 1 1))), (.mk (some 45) (some (43, true)) false (.v (.load .p (.t 44)))), (.mk (some 46) (some (43, true)) false (.v (.mov (.t 3)))), (.mk (some 47) (some (43, true)) false (.v (.bin .sub (.t 46) (.k (.int .i64 (.ofNat 1)))))), (.mk (some 48) (some (43, true)) false (.v (.idx (.t 45) (.t 47) 2))), (.mk (some 49) (some (43, true)) false (.v (.load (.ag [.s, .s]) (.t 48)))), (.mk (some 50) (some (43, true)) false (.v (.load (.ag [.s, .s]) (.t 4)))), (.mk (some 51) (some (43, true)) false (.call (.k (.fn 96 [] [])) [(.t 49), (.t 50)])), (.mk (some 52) (some (43, true)) false (.v (.un .not (.t 51)))), (.mk (some 53) (some (40, false)) false (.v (.pick (.t 43) (.t 52) (.k (.bool false))))), (.mk (some 54) none false (.v (.pick (.t 40) (.k (.bool true)) (.t 53))))] []) A48_5)
def A48_6 : AC := (.reg [] [(.mk (some 10) none false (.v (.mov (.t 3)))), (.mk (some 11) none false (.v (.bin .add (.t 10) (.k (.int .i64 (.ofNat 1)))))), (.mk (some 3) none false (.v (.mov (.t 11))))] [])
def A48_3 : AC := (.seq (.block 1 (.seq (.reg [.clr [4]] [(.mk (some 12) none false (.v (.fld (.t 1) 1 1))), (.mk (some 13) none false (.v (.load .p (.t 12)))), (.mk (some 14) none false (.v (.mov (.t 3)))), (.mk (some 15) none false (.v (.idx (.t 13) (.t 14) 2))), (.mk (some 16) none false (.v (.load (.ag [.s, .s]) (.t 15)))), (.mk (some 4) none false (.alloc (.agg [(.int .i64 (.ofNat 0)), (.int .i64 (.ofNat 0))]))), (.mk none none false (.store (.ag [.s, .s]) (.t 4) (.t 16)))] []) A48_4)) A48_6)
def A48_1 : AC := (.seq (.seq (.reg [] [(.mk (some 5) none false (.v (.mov (.t 3)))), (.mk (some 6) none false (.v (.fld (.t 1) 1 1))), (.mk (some 7) none false (.v (.load .p (.t 6)))), (.mk (some 8) none false (.v (.len (.t 7)))), (.mk (some 9) none false (.v (.bin .lss (.t 5) (.t 8))))] []) A48_2) A48_3)
def A48_7 : AC := (.seq (.reg [] [(.mk (some 55) none false (.v (.fld (.t 1) 0 0))), (.mk (some 56) none false (.v (.load .s (.t 55)))), (.mk (some 57) none false (.call (.k (.fn 95 [] [])) [(.t 56), (.k (.int .i64 (.ofNat 0))), (.k (.int .i64 (.ofNat 8)))])), (.mk (some 2) none false (.v (.mov (.t 57))))] []) .ret)
def A48_9 : AC := (.block 0 (.loop A48_1))
def A48_8 : AC := (.seq (.seq (.reg [] [(.mk (some 3) none false (.v (.mov (.k (.int .i64 (.ofNat 0))))))] []) A48_9) A48_7)
def A48 : AC := (.seq (.reg [.clr [1]] [(.mk (some 1) none false (.box (.t 0))), (.mk (some 2) none false (.v (.mov (.k (.bool false)))))] []) A48_8)
def an48 : List An := [{ id := 0, pre := [.clr [1]], ep := [], lin := [], sp := [] }, { id := 4, pre := [.clr [4]], ep := [], lin := [], sp := [] }]
theorem c48 : cC Try.prog Try.f48.ntmps an48 (Try.f48.body.getD .skip) = some A48 := by kernel_rfl
structure H48 (D : Den) (σ : Sig) (F : Nat) : Prop where
  c95 : ∀ (x0 : Int) (x1 : Int) (x2 : Int) r, s_l1In F x0 x1 x2 = some r → D 95 [Enc.enc x0, Enc.enc x1, Enc.enc x2] = some (Enc.enc (r : Bool))
  g95 : σ 95 = some (0, false)
  c96 : ∀ (x0 : (Int × Int)) (x1 : (Int × Int)) r, s_l2Before F x0 x1 = some r → D 96 [Enc.enc x0, Enc.enc x1] = some (Enc.enc (r : Bool))
  g96 : σ 96 = some (0, false)
abbrev R48 (r : Bool) : (Nat → V) → Prop := RR Try.prog [.tmp 2] 0 false (Enc.enc (r : Bool))
section
variable {D : Den} {σ : Sig} {F : Nat} {r : Bool}
def s_l2Good_j1 (F : Nat) (g_1 : (Int × (List (Int × Int)))) (i_12 : Int) (c1 : Int → Option Bool) (t54_28 : Bool) : Option Bool :=
  bif t54_28 then
    some false
  else
    c1 (w64 (i_12 + 1))
theorem t_f48_j1 (H : H48 D σ F) (g_1 : (Int × (List (Int × Int)))) (i_12 : Int) (c1 : Int → Option Bool) (Hc1 : ∀ (i_12 : Int) (s : Nat → V), Facts [(1, (.ref (.bx 1) 0 [] (.agg [(.int .i64 g_1.1), (Enc.enc (g_1.2 : List (Int × Int)))]))), (2, (.bool false)), (3, (.int .i64 i_12))] s → c1 i_12 = some r → Run D σ (R48 r) (.run A48_1 [.lp A48_1, .bk 0, .sq A48_7]) s) (t54_28 : Bool) (s : Nat → V) (hs : Facts [(1, (.ref (.bx 1) 0 [] (.agg [(.int .i64 g_1.1), (Enc.enc (g_1.2 : List (Int × Int)))]))), (2, (.bool false)), (3, (.int .i64 i_12)), (54, (.bool t54_28))] s) (h : s_l2Good_j1 F g_1 i_12 c1 t54_28 = some r) : Run D σ (R48 r) (.nrm [.sq A48_5, .bk 1, .sq A48_6, .lp A48_1, .bk 0, .sq A48_7]) s := by
  unfold s_l2Good_j1 at h
  obtain ⟨h1, h2, h3, h54⟩ := hs
  refine .nsq ?_
  refine run_cond (t := t54_28) h54 h (fun h => ?_) (fun h => ?_)
  · refine .seq ?_
    refine run_reg ?_
    refine e_end ?_
    refine g_v0 (.bool false) rfl rfl ?_
    refine g_end ?_
    refine e_end ?_
    refine renew [(1, (.ref (.bx 1) 0 [] (.agg [(.int .i64 g_1.1), (Enc.enc (g_1.2 : List (Int × Int)))]))), (2, (.bool false)), (3, (.int .i64 i_12))] ⟨h1, rfl, h3⟩ ?_
    rintro s ⟨h1, h2, h3⟩
    refine .nsq ?_
    refine .ret ?_
    have hr := Option.some.inj h
    subst hr
    exact rrA (res_tmp h2) rfl
  · refine .skip ?_
    refine .nbk ?_
    refine .nsq ?_
    refine run_reg ?_
    refine e_end ?_
    refine g_v1 (t := 3) (u := (.int .i64 i_12)) (.int .i64 i_12) h3 rfl rfl ?_
    refine g_v1 (t := 10) (u := (.int .i64 i_12)) (.int .i64 (w64 (i_12 + 1))) rfl rfl rfl ?_
    refine g_v1 (t := 11) (u := (.int .i64 (w64 (i_12 + 1)))) (.int .i64 (w64 (i_12 + 1))) rfl rfl rfl ?_
    refine g_end ?_
    refine e_end ?_
    refine renew [(1, (.ref (.bx 1) 0 [] (.agg [(.int .i64 g_1.1), (Enc.enc (g_1.2 : List (Int × Int)))]))), (2, (.bool false)), (3, (.int .i64 (w64 (i_12 + 1))))] ⟨h1, h2, rfl⟩ ?_
    rintro s ⟨h1, h2, h3⟩
    refine .nlp ?_
    exact Hc1 (w64 (i_12 + 1)) _ ⟨h1, h2, h3⟩ h
def s_l2Good_l1 (F : Nat) (g_1 : (Int × (List (Int × Int))))  : Nat → Int → Option Bool
  | 0, _ => none
  | k + 1, i_12 =>
    bif decide (i_12 < (g_1.2.length : Int)) then
      (idx g_1.2 i_12).bind fun e_23 =>
      (s_l1In F e_23.1 0 (w64 (g_1.1 - 1))).bind fun r_29 =>
      bif (!r_29) then
        s_l2Good_j1 F g_1 i_12 (s_l2Good_l1 F g_1 k) true
      else
        (s_l1In F e_23.2 0 (w64 (g_1.1 - 1))).bind fun r_30 =>
        bif (!r_30) then
          s_l2Good_j1 F g_1 i_12 (s_l2Good_l1 F g_1 k) true
        else
          bif decide (e_23.1 ≥ e_23.2) then
            s_l2Good_j1 F g_1 i_12 (s_l2Good_l1 F g_1 k) true
          else
            bif decide (i_12 > 0) then
              (idx g_1.2 (w64 (i_12 - 1))).bind fun e_31 =>
              (s_l2Before F e_31 e_23).bind fun r_32 =>
              s_l2Good_j1 F g_1 i_12 (s_l2Good_l1 F g_1 k) (!r_32)
            else
              s_l2Good_j1 F g_1 i_12 (s_l2Good_l1 F g_1 k) false
    else
      (s_l1In F g_1.1 0 8).bind fun r_33 =>
      some r_33
theorem t_f48_l1 (H : H48 D σ F) (g_1 : (Int × (List (Int × Int))))  : ∀ (k : Nat) (i_12 : Int) (s : Nat → V), Facts [(1, (.ref (.bx 1) 0 [] (.agg [(.int .i64 g_1.1), (Enc.enc (g_1.2 : List (Int × Int)))]))), (2, (.bool false)), (3, (.int .i64 i_12))] s → s_l2Good_l1 F g_1 k i_12 = some r → Run D σ (R48 r) (.run A48_1 [.lp A48_1, .bk 0, .sq A48_7]) s := by
  intro k
  induction k with
  | zero => intro i_12 s _ h; exact nomatch (h : (none : Option _) = some r)
  | succ k ih =>
    intro i_12 s hs h
    rw [s_l2Good_l1] at h
    obtain ⟨h1, h2, h3⟩ := hs
    refine .seq ?_
    refine .seq ?_
    refine run_reg ?_
    refine e_end ?_
    refine g_v1 (t := 3) (u := (.int .i64 i_12)) (.int .i64 i_12) h3 rfl rfl ?_
    refine g_v1 (t := 1) (u := (.ref (.bx 1) 0 [] (.agg [(.int .i64 g_1.1), (Enc.enc (g_1.2 : List (Int × Int)))]))) (.ref (.bx 1) 0 [1] (Enc.enc (g_1.2 : List (Int × Int)))) h1 rfl rfl ?_
    refine g_v1 (t := 6) (u := (.ref (.bx 1) 0 [1] (Enc.enc (g_1.2 : List (Int × Int))))) (Enc.enc (g_1.2 : List (Int × Int))) rfl rfl rfl ?_
    refine g_v (.int .i64 (g_1.2.length : Int)) (ev_len (xs := g_1.2) rfl) ?_
    refine g_v2 (t1 := 5) (t2 := 8) (u1 := (.int .i64 i_12)) (u2 := (.int .i64 (g_1.2.length : Int))) (.bool (decide (i_12 < (g_1.2.length : Int)))) rfl rfl rfl rfl ?_
    refine g_end ?_
    refine e_end ?_
    refine renew [(1, (.ref (.bx 1) 0 [] (.agg [(.int .i64 g_1.1), (Enc.enc (g_1.2 : List (Int × Int)))]))), (2, (.bool false)), (3, (.int .i64 i_12)), (9, (.bool (decide (i_12 < (g_1.2.length : Int)))))] ⟨h1, h2, h3, rfl⟩ ?_
    rintro s ⟨h1, h2, h3, h9⟩
    refine .nsq ?_
    refine run_cond (t := decide (i_12 < (g_1.2.length : Int))) h9 h (fun h => ?_) (fun h => ?_)
    · refine .skip ?_
      refine .nsq ?_
      refine .seq ?_
      refine .block ?_
      refine .seq ?_
      refine run_reg ?_
      refine e_clr ?_
      refine e_end ?_
      refine g_v1 (t := 1) (u := (.ref (.bx 1) 0 [] (.agg [(.int .i64 g_1.1), (Enc.enc (g_1.2 : List (Int × Int)))]))) (.ref (.bx 1) 0 [1] (Enc.enc (g_1.2 : List (Int × Int)))) (keep_clear (s := s) (pk := [4]) h1 rfl (map_bx rfl (map_agg (maps_cons rfl (maps_cons (Enc.map_enc _ (g_1.2 : List (Int × Int))) maps_nil))))) rfl rfl ?_
      refine g_v1 (t := 12) (u := (.ref (.bx 1) 0 [1] (Enc.enc (g_1.2 : List (Int × Int))))) (Enc.enc (g_1.2 : List (Int × Int))) rfl rfl rfl ?_
      refine g_v1 (t := 3) (u := (.int .i64 i_12)) (.int .i64 i_12) (keep_clear (s := s) (pk := [4]) h3 rfl rfl) rfl rfl ?_
      obtain ⟨e_23, E_e_23, h⟩ := bind_some h
      refine g_v (.ref .sh 0 [] (.agg [(.int .i64 e_23.1), (.int .i64 e_23.2)])) (ev_idx (t := .sh) (lo := 0) (xs := g_1.2) rfl rfl E_e_23 rfl rfl) ?_
      refine g_v1 (t := 15) (u := (.ref .sh 0 [] (.agg [(.int .i64 e_23.1), (.int .i64 e_23.2)]))) (.agg [(.int .i64 e_23.1), (.int .i64 e_23.2)]) rfl rfl rfl ?_
      refine g_alloc (gone_clear (s := s) (pk := [4]) (t := 4) rfl) ?_
      refine g_store (.agg [(.int .i64 e_23.1), (.int .i64 e_23.2)]) (rd_of rfl rfl) (rd_of rfl rfl) (by refine ⟨by decide, by decide, rfl, rfl, rfl, ?_⟩; first | rfl | simp [V.toks, V.tokss, Enc.toks_enc]) ?_
      refine g_end ?_
      refine e_end ?_
      refine renew [(1, (.ref (.bx 1) 0 [] (.agg [(.int .i64 g_1.1), (Enc.enc (g_1.2 : List (Int × Int)))]))), (2, (.bool false)), (3, (.int .i64 i_12)), (4, (.ref (.bx 4) 0 [] (.agg [(.int .i64 e_23.1), (.int .i64 e_23.2)])))] ⟨(keep_mut (keep_clear (s := s) (pk := [4]) h1 rfl (map_bx rfl (map_agg (maps_cons rfl (maps_cons (Enc.map_enc _ (g_1.2 : List (Int × Int))) maps_nil))))) (mut_ref_ne rfl rfl (mut_agg (muts_cons rfl (muts_cons (Enc.mut_enc _ _ _ _ (g_1.2 : List (Int × Int))) rfl))))), (keep_mut (keep_clear (s := s) (pk := [4]) h2 rfl rfl) rfl), (keep_mut (keep_clear (s := s) (pk := [4]) h3 rfl rfl) rfl), (keep_mut rfl rfl)⟩ ?_
      rintro s ⟨h1, h2, h3, h4⟩
      refine .nsq ?_
      refine .seq ?_
      refine run_reg ?_
      refine e_end ?_
      refine g_v1 (t := 4) (u := (.ref (.bx 4) 0 [] (.agg [(.int .i64 e_23.1), (.int .i64 e_23.2)]))) (.ref (.bx 4) 0 [0] (.int .i64 e_23.1)) h4 rfl rfl ?_
      refine g_v1 (t := 17) (u := (.ref (.bx 4) 0 [0] (.int .i64 e_23.1))) (.int .i64 e_23.1) rfl rfl rfl ?_
      refine g_v1 (t := 1) (u := (.ref (.bx 1) 0 [] (.agg [(.int .i64 g_1.1), (Enc.enc (g_1.2 : List (Int × Int)))]))) (.ref (.bx 1) 0 [0] (.int .i64 g_1.1)) h1 rfl rfl ?_
      refine g_v1 (t := 19) (u := (.ref (.bx 1) 0 [0] (.int .i64 g_1.1))) (.int .i64 g_1.1) rfl rfl rfl ?_
      refine g_v1 (t := 20) (u := (.int .i64 g_1.1)) (.int .i64 (w64 (g_1.1 - 1))) rfl rfl rfl ?_
      obtain ⟨r_29, E_r_29, h⟩ := bind_some h
      refine g_call (m := 0) (al := false) (r := (Enc.enc (r_29 : Bool))) [Enc.enc (e_23.1 : Int), Enc.enc (0 : Int), Enc.enc (w64 (g_1.1 - 1) : Int)] (ta_cons (v := (.int .i64 e_23.1)) rfl rfl rfl (ta_cons (v := (.int .i64 0)) rfl rfl rfl (ta_cons (v := (.int .i64 (w64 (g_1.1 - 1)))) rfl rfl rfl ta_nil))) (H.c95 _ _ _ _ E_r_29) H.g95 rfl rfl rfl rfl ?_
      refine g_v1 (t := 22) (u := (.bool r_29)) (.bool (!r_29)) rfl rfl rfl ?_
      refine g_v1 (t := 23) (u := (.bool (!r_29))) (.bool (!r_29)) rfl rfl rfl ?_
      refine split_on (c := (!r_29)) h (fun hg8 h => ?_) (fun hg8 h => ?_)
      · refine g_no (Eq.trans (b := .bool (!r_29)) rfl (congrArg V.bool hg8)) ?_
        refine g_no (Eq.trans (b := .bool (!r_29)) rfl (congrArg V.bool hg8)) ?_
        refine g_no (Eq.trans (b := .bool (!r_29)) rfl (congrArg V.bool hg8)) ?_
        refine g_no (Eq.trans (b := .bool (!r_29)) rfl (congrArg V.bool hg8)) ?_
        refine g_no (Eq.trans (b := .bool (!r_29)) rfl (congrArg V.bool hg8)) ?_
        refine g_no (Eq.trans (b := .bool (!r_29)) rfl (congrArg V.bool hg8)) ?_
        refine g_no (Eq.trans (b := .bool (!r_29)) rfl (congrArg V.bool hg8)) ?_
        refine g_v2 (t1 := 24) (t2 := 31) (u1 := (.bool true)) (u2 := (.tup [])) (.bool true) (Eq.trans (b := .bool (!r_29)) rfl (congrArg V.bool hg8)) rfl rfl rfl ?_
        refine g_v1 (t := 32) (u := (.bool true)) (.bool true) rfl rfl rfl ?_
        refine g_no rfl ?_
        refine g_no rfl ?_
        refine g_no rfl ?_
        refine g_no rfl ?_
        refine g_no rfl ?_
        refine g_v2 (t1 := 33) (t2 := 38) (u1 := (.bool true)) (u2 := (.tup [])) (.bool true) rfl rfl rfl rfl ?_
        refine g_v1 (t := 39) (u := (.bool true)) (.bool true) rfl rfl rfl ?_
        refine g_no rfl ?_
        refine g_no rfl ?_
        refine g_no rfl ?_
        refine g_skip rfl ?_
        refine g_skip rfl ?_
        refine g_skip rfl ?_
        refine g_skip rfl ?_
        refine g_skip rfl ?_
        refine g_skip rfl ?_
        refine g_skip rfl ?_
        refine g_skip rfl ?_
        refine g_skip rfl ?_
        refine g_no rfl ?_
        refine g_v2 (t1 := 40) (t2 := 53) (u1 := (.bool true)) (u2 := (.tup [])) (.bool true) rfl rfl rfl rfl ?_
        refine g_end ?_
        refine e_end ?_
        refine renew [(1, (.ref (.bx 1) 0 [] (.agg [(.int .i64 g_1.1), (Enc.enc (g_1.2 : List (Int × Int)))]))), (2, (.bool false)), (3, (.int .i64 i_12)), (54, (.bool true))] ⟨h1, h2, h3, rfl⟩ ?_
        rintro s ⟨h1, h2, h3, h54⟩
        exact t_f48_j1 H g_1 i_12 (s_l2Good_l1 F g_1 k) ih true _ ⟨h1, h2, h3, h54⟩ h
      · refine g_yes (Eq.trans (b := .bool (!r_29)) rfl (congrArg V.bool hg8)) (g_v1 (t := 4) (u := (.ref (.bx 4) 0 [] (.agg [(.int .i64 e_23.1), (.int .i64 e_23.2)]))) (.ref (.bx 4) 0 [1] (.int .i64 e_23.2)) h4 rfl rfl ?_)
        refine g_yes (Eq.trans (b := .bool (!r_29)) rfl (congrArg V.bool hg8)) (g_v1 (t := 25) (u := (.ref (.bx 4) 0 [1] (.int .i64 e_23.2))) (.int .i64 e_23.2) rfl rfl rfl ?_)
        refine g_yes (Eq.trans (b := .bool (!r_29)) rfl (congrArg V.bool hg8)) (g_v1 (t := 1) (u := (.ref (.bx 1) 0 [] (.agg [(.int .i64 g_1.1), (Enc.enc (g_1.2 : List (Int × Int)))]))) (.ref (.bx 1) 0 [0] (.int .i64 g_1.1)) h1 rfl rfl ?_)
        refine g_yes (Eq.trans (b := .bool (!r_29)) rfl (congrArg V.bool hg8)) (g_v1 (t := 27) (u := (.ref (.bx 1) 0 [0] (.int .i64 g_1.1))) (.int .i64 g_1.1) rfl rfl rfl ?_)
        refine g_yes (Eq.trans (b := .bool (!r_29)) rfl (congrArg V.bool hg8)) (g_v1 (t := 28) (u := (.int .i64 g_1.1)) (.int .i64 (w64 (g_1.1 - 1))) rfl rfl rfl ?_)
        obtain ⟨r_30, E_r_30, h⟩ := bind_some h
        refine g_yes (Eq.trans (b := .bool (!r_29)) rfl (congrArg V.bool hg8)) (g_call (m := 0) (al := false) (r := (Enc.enc (r_30 : Bool))) [Enc.enc (e_23.2 : Int), Enc.enc (0 : Int), Enc.enc (w64 (g_1.1 - 1) : Int)] (ta_cons (v := (.int .i64 e_23.2)) rfl rfl rfl (ta_cons (v := (.int .i64 0)) rfl rfl rfl (ta_cons (v := (.int .i64 (w64 (g_1.1 - 1)))) rfl rfl rfl ta_nil))) (H.c95 _ _ _ _ E_r_30) H.g95 rfl rfl rfl rfl ?_)
        refine g_yes (Eq.trans (b := .bool (!r_29)) rfl (congrArg V.bool hg8)) (g_v1 (t := 30) (u := (.bool r_30)) (.bool (!r_30)) rfl rfl rfl ?_)
        refine g_v2 (t1 := 24) (t2 := 31) (u1 := (.bool false)) (u2 := (.bool (!r_30))) (.bool (!r_30)) (Eq.trans (b := .bool (!r_29)) rfl (congrArg V.bool hg8)) rfl rfl rfl ?_
        refine g_v1 (t := 32) (u := (.bool (!r_30))) (.bool (!r_30)) rfl rfl rfl ?_
        refine split_on (c := (!r_30)) h (fun hg17 h => ?_) (fun hg17 h => ?_)
        · refine g_no (Eq.trans (b := .bool (!r_30)) rfl (congrArg V.bool hg17)) ?_
          refine g_no (Eq.trans (b := .bool (!r_30)) rfl (congrArg V.bool hg17)) ?_
          refine g_no (Eq.trans (b := .bool (!r_30)) rfl (congrArg V.bool hg17)) ?_
          refine g_no (Eq.trans (b := .bool (!r_30)) rfl (congrArg V.bool hg17)) ?_
          refine g_no (Eq.trans (b := .bool (!r_30)) rfl (congrArg V.bool hg17)) ?_
          refine g_v2 (t1 := 33) (t2 := 38) (u1 := (.bool true)) (u2 := (.tup [])) (.bool true) (Eq.trans (b := .bool (!r_30)) rfl (congrArg V.bool hg17)) rfl rfl rfl ?_
          refine g_v1 (t := 39) (u := (.bool true)) (.bool true) rfl rfl rfl ?_
          refine g_no rfl ?_
          refine g_no rfl ?_
          refine g_no rfl ?_
          refine g_skip rfl ?_
          refine g_skip rfl ?_
          refine g_skip rfl ?_
          refine g_skip rfl ?_
          refine g_skip rfl ?_
          refine g_skip rfl ?_
          refine g_skip rfl ?_
          refine g_skip rfl ?_
          refine g_skip rfl ?_
          refine g_no rfl ?_
          refine g_v2 (t1 := 40) (t2 := 53) (u1 := (.bool true)) (u2 := (.tup [])) (.bool true) rfl rfl rfl rfl ?_
          refine g_end ?_
          refine e_end ?_
          refine renew [(1, (.ref (.bx 1) 0 [] (.agg [(.int .i64 g_1.1), (Enc.enc (g_1.2 : List (Int × Int)))]))), (2, (.bool false)), (3, (.int .i64 i_12)), (54, (.bool true))] ⟨h1, h2, h3, rfl⟩ ?_
          rintro s ⟨h1, h2, h3, h54⟩
          exact t_f48_j1 H g_1 i_12 (s_l2Good_l1 F g_1 k) ih true _ ⟨h1, h2, h3, h54⟩ h
        · refine g_yes (Eq.trans (b := .bool (!r_30)) rfl (congrArg V.bool hg17)) (g_v1 (t := 4) (u := (.ref (.bx 4) 0 [] (.agg [(.int .i64 e_23.1), (.int .i64 e_23.2)]))) (.ref (.bx 4) 0 [0] (.int .i64 e_23.1)) h4 rfl rfl ?_)
          refine g_yes (Eq.trans (b := .bool (!r_30)) rfl (congrArg V.bool hg17)) (g_v1 (t := 34) (u := (.ref (.bx 4) 0 [0] (.int .i64 e_23.1))) (.int .i64 e_23.1) rfl rfl rfl ?_)
          refine g_yes (Eq.trans (b := .bool (!r_30)) rfl (congrArg V.bool hg17)) (g_v1 (t := 4) (u := (.ref (.bx 4) 0 [] (.agg [(.int .i64 e_23.1), (.int .i64 e_23.2)]))) (.ref (.bx 4) 0 [1] (.int .i64 e_23.2)) h4 rfl rfl ?_)
          refine g_yes (Eq.trans (b := .bool (!r_30)) rfl (congrArg V.bool hg17)) (g_v1 (t := 36) (u := (.ref (.bx 4) 0 [1] (.int .i64 e_23.2))) (.int .i64 e_23.2) rfl rfl rfl ?_)
          refine g_yes (Eq.trans (b := .bool (!r_30)) rfl (congrArg V.bool hg17)) (g_v2 (t1 := 35) (t2 := 37) (u1 := (.int .i64 e_23.1)) (u2 := (.int .i64 e_23.2)) (.bool (decide (e_23.1 ≥ e_23.2))) rfl rfl rfl rfl ?_)
          refine g_v2 (t1 := 33) (t2 := 38) (u1 := (.bool false)) (u2 := (.bool (decide (e_23.1 ≥ e_23.2)))) (.bool (decide (e_23.1 ≥ e_23.2))) (Eq.trans (b := .bool (!r_30)) rfl (congrArg V.bool hg17)) rfl rfl rfl ?_
          refine g_v1 (t := 39) (u := (.bool (decide (e_23.1 ≥ e_23.2)))) (.bool (decide (e_23.1 ≥ e_23.2))) rfl rfl rfl ?_
          refine split_on (c := decide (e_23.1 ≥ e_23.2)) h (fun hg24 h => ?_) (fun hg24 h => ?_)
          · refine g_no (Eq.trans (b := .bool (decide (e_23.1 ≥ e_23.2))) rfl (congrArg V.bool hg24)) ?_
            refine g_no (Eq.trans (b := .bool (decide (e_23.1 ≥ e_23.2))) rfl (congrArg V.bool hg24)) ?_
            refine g_no (Eq.trans (b := .bool (decide (e_23.1 ≥ e_23.2))) rfl (congrArg V.bool hg24)) ?_
            refine g_skip rfl ?_
            refine g_skip rfl ?_
            refine g_skip rfl ?_
            refine g_skip rfl ?_
            refine g_skip rfl ?_
            refine g_skip rfl ?_
            refine g_skip rfl ?_
            refine g_skip rfl ?_
            refine g_skip rfl ?_
            refine g_no (Eq.trans (b := .bool (decide (e_23.1 ≥ e_23.2))) rfl (congrArg V.bool hg24)) ?_
            refine g_v2 (t1 := 40) (t2 := 53) (u1 := (.bool true)) (u2 := (.tup [])) (.bool true) (Eq.trans (b := .bool (decide (e_23.1 ≥ e_23.2))) rfl (congrArg V.bool hg24)) rfl rfl rfl ?_
            refine g_end ?_
            refine e_end ?_
            refine renew [(1, (.ref (.bx 1) 0 [] (.agg [(.int .i64 g_1.1), (Enc.enc (g_1.2 : List (Int × Int)))]))), (2, (.bool false)), (3, (.int .i64 i_12)), (54, (.bool true))] ⟨h1, h2, h3, rfl⟩ ?_
            rintro s ⟨h1, h2, h3, h54⟩
            exact t_f48_j1 H g_1 i_12 (s_l2Good_l1 F g_1 k) ih true _ ⟨h1, h2, h3, h54⟩ h
          · refine g_yes (Eq.trans (b := .bool (decide (e_23.1 ≥ e_23.2))) rfl (congrArg V.bool hg24)) (g_v1 (t := 3) (u := (.int .i64 i_12)) (.int .i64 i_12) h3 rfl rfl ?_)
            refine g_yes (Eq.trans (b := .bool (decide (e_23.1 ≥ e_23.2))) rfl (congrArg V.bool hg24)) (g_v1 (t := 41) (u := (.int .i64 i_12)) (.bool (decide (i_12 > 0))) rfl rfl rfl ?_)
            refine g_yes (Eq.trans (b := .bool (decide (e_23.1 ≥ e_23.2))) rfl (congrArg V.bool hg24)) (g_v1 (t := 42) (u := (.bool (decide (i_12 > 0)))) (.bool (decide (i_12 > 0))) rfl rfl rfl ?_)
            refine split_on (c := decide (i_12 > 0)) h (fun hg27 h => ?_) (fun hg27 h => ?_)
            · refine g_yes (Eq.trans (b := .bool (decide (i_12 > 0))) rfl (congrArg V.bool hg27)) (g_v1 (t := 1) (u := (.ref (.bx 1) 0 [] (.agg [(.int .i64 g_1.1), (Enc.enc (g_1.2 : List (Int × Int)))]))) (.ref (.bx 1) 0 [1] (Enc.enc (g_1.2 : List (Int × Int)))) h1 rfl rfl ?_)
              refine g_yes (Eq.trans (b := .bool (decide (i_12 > 0))) rfl (congrArg V.bool hg27)) (g_v1 (t := 44) (u := (.ref (.bx 1) 0 [1] (Enc.enc (g_1.2 : List (Int × Int))))) (Enc.enc (g_1.2 : List (Int × Int))) rfl rfl rfl ?_)
              refine g_yes (Eq.trans (b := .bool (decide (i_12 > 0))) rfl (congrArg V.bool hg27)) (g_v1 (t := 3) (u := (.int .i64 i_12)) (.int .i64 i_12) h3 rfl rfl ?_)
              refine g_yes (Eq.trans (b := .bool (decide (i_12 > 0))) rfl (congrArg V.bool hg27)) (g_v1 (t := 46) (u := (.int .i64 i_12)) (.int .i64 (w64 (i_12 - 1))) rfl rfl rfl ?_)
              obtain ⟨e_31, E_e_31, h⟩ := bind_some h
              refine g_yes (Eq.trans (b := .bool (decide (i_12 > 0))) rfl (congrArg V.bool hg27)) (g_v (.ref .sh 0 [] (.agg [(.int .i64 e_31.1), (.int .i64 e_31.2)])) (ev_idx (t := .sh) (lo := 0) (xs := g_1.2) rfl rfl E_e_31 rfl rfl) ?_)
              refine g_yes (Eq.trans (b := .bool (decide (i_12 > 0))) rfl (congrArg V.bool hg27)) (g_v1 (t := 48) (u := (.ref .sh 0 [] (.agg [(.int .i64 e_31.1), (.int .i64 e_31.2)]))) (.agg [(.int .i64 e_31.1), (.int .i64 e_31.2)]) rfl rfl rfl ?_)
              refine g_yes (Eq.trans (b := .bool (decide (i_12 > 0))) rfl (congrArg V.bool hg27)) (g_v1 (t := 4) (u := (.ref (.bx 4) 0 [] (.agg [(.int .i64 e_23.1), (.int .i64 e_23.2)]))) (.agg [(.int .i64 e_23.1), (.int .i64 e_23.2)]) h4 rfl rfl ?_)
              obtain ⟨r_32, E_r_32, h⟩ := bind_some h
              refine g_yes (Eq.trans (b := .bool (decide (i_12 > 0))) rfl (congrArg V.bool hg27)) (g_call (m := 0) (al := false) (r := (Enc.enc (r_32 : Bool))) [Enc.enc (e_31 : (Int × Int)), Enc.enc (e_23 : (Int × Int))] (ta_cons (v := (.agg [(.int .i64 e_31.1), (.int .i64 e_31.2)])) rfl rfl (Enc.erase_enc (e_31 : (Int × Int))) (ta_cons (v := (.agg [(.int .i64 e_23.1), (.int .i64 e_23.2)])) rfl rfl (Enc.erase_enc (e_23 : (Int × Int))) ta_nil)) (H.c96 _ _ _ E_r_32) H.g96 rfl rfl rfl rfl ?_)
              refine g_yes (Eq.trans (b := .bool (decide (i_12 > 0))) rfl (congrArg V.bool hg27)) (g_v1 (t := 51) (u := (.bool r_32)) (.bool (!r_32)) rfl rfl rfl ?_)
              refine g_yes (Eq.trans (b := .bool (decide (e_23.1 ≥ e_23.2))) rfl (congrArg V.bool hg24)) (g_v2 (t1 := 43) (t2 := 52) (u1 := (.bool true)) (u2 := (.bool (!r_32))) (.bool (!r_32)) (Eq.trans (b := .bool (decide (i_12 > 0))) rfl (congrArg V.bool hg27)) rfl rfl rfl ?_)
              refine g_v2 (t1 := 40) (t2 := 53) (u1 := (.bool false)) (u2 := (.bool (!r_32))) (.bool (!r_32)) (Eq.trans (b := .bool (decide (e_23.1 ≥ e_23.2))) rfl (congrArg V.bool hg24)) rfl rfl rfl ?_
              refine g_end ?_
              refine e_end ?_
              refine renew [(1, (.ref (.bx 1) 0 [] (.agg [(.int .i64 g_1.1), (Enc.enc (g_1.2 : List (Int × Int)))]))), (2, (.bool false)), (3, (.int .i64 i_12)), (54, (.bool (!r_32)))] ⟨h1, h2, h3, rfl⟩ ?_
              rintro s ⟨h1, h2, h3, h54⟩
              exact t_f48_j1 H g_1 i_12 (s_l2Good_l1 F g_1 k) ih (!r_32) _ ⟨h1, h2, h3, h54⟩ h
            · refine g_no (Eq.trans (b := .bool (decide (i_12 > 0))) rfl (congrArg V.bool hg27)) ?_
              refine g_no (Eq.trans (b := .bool (decide (i_12 > 0))) rfl (congrArg V.bool hg27)) ?_
              refine g_no (Eq.trans (b := .bool (decide (i_12 > 0))) rfl (congrArg V.bool hg27)) ?_
              refine g_no (Eq.trans (b := .bool (decide (i_12 > 0))) rfl (congrArg V.bool hg27)) ?_
              refine g_no (Eq.trans (b := .bool (decide (i_12 > 0))) rfl (congrArg V.bool hg27)) ?_
              refine g_no (Eq.trans (b := .bool (decide (i_12 > 0))) rfl (congrArg V.bool hg27)) ?_
              refine g_no (Eq.trans (b := .bool (decide (i_12 > 0))) rfl (congrArg V.bool hg27)) ?_
              refine g_no (Eq.trans (b := .bool (decide (i_12 > 0))) rfl (congrArg V.bool hg27)) ?_
              refine g_no (Eq.trans (b := .bool (decide (i_12 > 0))) rfl (congrArg V.bool hg27)) ?_
              refine g_yes (Eq.trans (b := .bool (decide (e_23.1 ≥ e_23.2))) rfl (congrArg V.bool hg24)) (g_v2 (t1 := 43) (t2 := 52) (u1 := (.bool false)) (u2 := (.tup [])) (.bool false) (Eq.trans (b := .bool (decide (i_12 > 0))) rfl (congrArg V.bool hg27)) rfl rfl rfl ?_)
              refine g_v2 (t1 := 40) (t2 := 53) (u1 := (.bool false)) (u2 := (.bool false)) (.bool false) (Eq.trans (b := .bool (decide (e_23.1 ≥ e_23.2))) rfl (congrArg V.bool hg24)) rfl rfl rfl ?_
              refine g_end ?_
              refine e_end ?_
              refine renew [(1, (.ref (.bx 1) 0 [] (.agg [(.int .i64 g_1.1), (Enc.enc (g_1.2 : List (Int × Int)))]))), (2, (.bool false)), (3, (.int .i64 i_12)), (54, (.bool false))] ⟨h1, h2, h3, rfl⟩ ?_
              rintro s ⟨h1, h2, h3, h54⟩
              exact t_f48_j1 H g_1 i_12 (s_l2Good_l1 F g_1 k) ih false _ ⟨h1, h2, h3, h54⟩ h
    · refine .exit ?_
      refine .esq ?_
      refine .elp ?_
      refine .ebk ?_
      refine .nsq ?_
      refine .seq ?_
      refine run_reg ?_
      refine e_end ?_
      refine g_v1 (t := 1) (u := (.ref (.bx 1) 0 [] (.agg [(.int .i64 g_1.1), (Enc.enc (g_1.2 : List (Int × Int)))]))) (.ref (.bx 1) 0 [0] (.int .i64 g_1.1)) h1 rfl rfl ?_
      refine g_v1 (t := 55) (u := (.ref (.bx 1) 0 [0] (.int .i64 g_1.1))) (.int .i64 g_1.1) rfl rfl rfl ?_
      obtain ⟨r_33, E_r_33, h⟩ := bind_some h
      refine g_call (m := 0) (al := false) (r := (Enc.enc (r_33 : Bool))) [Enc.enc (g_1.1 : Int), Enc.enc (0 : Int), Enc.enc (8 : Int)] (ta_cons (v := (.int .i64 g_1.1)) rfl rfl rfl (ta_cons (v := (.int .i64 0)) rfl rfl rfl (ta_cons (v := (.int .i64 8)) rfl rfl rfl ta_nil))) (H.c95 _ _ _ _ E_r_33) H.g95 rfl rfl rfl rfl ?_
      refine g_v1 (t := 57) (u := (.bool r_33)) (.bool r_33) rfl rfl rfl ?_
      refine g_end ?_
      refine e_end ?_
      refine renew [(2, (.bool r_33))] rfl ?_
      rintro s h2
      refine .nsq ?_
      refine .ret ?_
      have hr := Option.some.inj h
      subst hr
      exact rrA (res_tmp h2) rfl
def s_l2Good (F : Nat) (g_1 : (Int × (List (Int × Int)))) : Option Bool :=
  s_l2Good_l1 F g_1 F 0
theorem t48 (H : H48 D σ F) (g_1 : (Int × (List (Int × Int)))) (s : Nat → V) (hs : Facts [(0, (.agg [(.int .i64 g_1.1), (Enc.enc (g_1.2 : List (Int × Int)))]))] s) (h : s_l2Good F g_1 = some r) : Run D σ (R48 r) (.run A48 []) s := by
  unfold s_l2Good at h
  have h0 := hs
  refine .seq ?_
  refine run_reg ?_
  refine e_clr ?_
  refine e_end ?_
  refine g_box (.agg [(.int .i64 g_1.1), (Enc.enc (g_1.2 : List (Int × Int)))]) (rd_of (keep_clear (s := s) (pk := [1]) h0 rfl (map_agg (maps_cons rfl (maps_cons (Enc.map_enc _ (g_1.2 : List (Int × Int))) maps_nil)))) rfl) (gone_clear (s := s) (pk := [1]) (t := 1) rfl) rfl ?_
  refine g_v0 (.bool false) rfl rfl ?_
  refine g_end ?_
  refine e_end ?_
  refine renew [(1, (.ref (.bx 1) 0 [] (.agg [(.int .i64 g_1.1), (Enc.enc (g_1.2 : List (Int × Int)))]))), (2, (.bool false))] ⟨rfl, rfl⟩ ?_
  rintro s ⟨h1, h2⟩
  refine .nsq ?_
  refine .seq ?_
  refine .seq ?_
  refine run_reg ?_
  refine e_end ?_
  refine g_v0 (.int .i64 0) rfl rfl ?_
  refine g_end ?_
  refine e_end ?_
  refine renew [(1, (.ref (.bx 1) 0 [] (.agg [(.int .i64 g_1.1), (Enc.enc (g_1.2 : List (Int × Int)))]))), (2, (.bool false)), (3, (.int .i64 0))] ⟨h1, h2, rfl⟩ ?_
  rintro s ⟨h1, h2, h3⟩
  refine .nsq ?_
  refine .block ?_
  refine .loop ?_
  exact t_f48_l1 H g_1 F 0 _ ⟨h1, h2, h3⟩ h
end
def e48 (F : Nat) : Ent := ⟨48, da (fun (x : ((Int × (List (Int × Int))) × Unit)) => s_l2Good F x.1) (fun (r : Bool) => (Enc.enc (r : Bool))), 0, false, selF []⟩
theorem p48 {F : Nat} {x0 : (Int × (List (Int × Int)))} {r : Bool} (h : s_l2Good F x0 = some r) : (e48 F).den [Enc.enc x0] = some (Enc.enc (r : Bool)) := da_put (f := fun (x : ((Int × (List (Int × Int))) × Unit)) => s_l2Good F x.1) (t := fun (r : Bool) => (Enc.enc (r : Bool))) (x0, ()) h
theorem o48 {D : Den} {σ : Sig} {F : Nat} (hF : Fits2 Try.prog D σ) (H : H48 D σ F) : (e48 F).Ok Try.prog := by
  refine ok_of (f := 48) (show unk 48 = 48 from rfl) (fun args r h => ?_) ⟨Try.f48, Try.func48, rfl, rfl⟩
  obtain ⟨⟨x0, _⟩, y, rfl, hy, rfl⟩ := da_open h
  exact contract_run hF (by kernel_rfl) Try.func48 rfl c48 (show 1 ≤ Try.f48.ntmps by decide) (t48 H x0 _ rfl hy)
/- loop.example/g01109/spec.l2Bits -/
def A56_2 : AC := (.cond (.t 10) .skip (.exit 0))
def A56_4 : AC := (.cond (.t 17) (.reg [.clr [20, 21]] [(.mk (some 18) none false (.v (.mov (.t 5)))), (.mk (some 19) none false (.v (.mov (.t 6)))), (.mk (some 20) none false (.lit (.int .i64 (.ofNat 0)) 1 [(0, 0, (.t 19))])), (.mk (some 21) none false (.app .s (.t 18) (.t 20))), (.mk (some 5) none false (.v (.mov (.t 21))))] [.home 21 5]) .skip)
def A56_5 : AC := (.reg [] [(.mk (some 11) none false (.v (.mov (.t 6)))), (.mk (some 12) none false (.v (.bin .add (.t 11) (.k (.int .i64 (.ofNat 1)))))), (.mk (some 6) none false (.v (.mov (.t 12))))] [])
def A56_3 : AC := (.seq (.block 1 (.seq (.reg [] [(.mk (some 13) none false (.v (.mov (.t 1)))), (.mk (some 14) none false (.v (.mov (.t 6)))), (.mk (some 15) none false (.v (.bin .shr (.t 13) (.t 14)))), (.mk (some 16) none false (.v (.bin .and (.t 15) (.k (.int .i64 (.ofNat 1)))))), (.mk (some 17) none false (.v (.bin .eql (.t 16) (.k (.int .i64 (.ofNat 1))))))] []) A56_4)) A56_5)
def A56_1 : AC := (.seq (.seq (.reg [] [(.mk (some 8) none false (.v (.mov (.t 6)))), (.mk (some 9) none false (.v (.mov (.t 0)))), (.mk (some 10) none false (.v (.bin .lss (.t 8) (.t 9))))] []) A56_2) A56_3)
def A56_6 : AC := (.seq (.reg [] [(.mk (some 22) none false (.v (.mov (.t 5)))), (.mk (some 4) none false (.v (.mov (.t 22))))] [.home 5 4]) .ret)
def A56_9 : AC := (.block 0 (.loop A56_1))
def A56_8 : AC := (.seq (.seq (.reg [] [(.mk (some 6) none false (.v (.mov (.k (.int .i64 (.ofNat 0))))))] []) A56_9) A56_6)
def A56_7 : AC := (.seq (.reg [.clr [7]] [(.mk (some 7) none false (.lit (.int .i64 (.ofNat 0)) 0 [])), (.mk (some 5) none false (.v (.mov (.t 7))))] [.home 7 5]) A56_8)
def A56 : AC := (.seq (.reg [] [(.mk (some 4) none false (.v (.mov (.k (.sl .nl .s 0 [])))))] []) A56_7)
def an56 : List An := [{ id := 1, pre := [.clr [7]], ep := [.home 7 5], lin := [], sp := [] }, { id := 6, pre := [.clr [20, 21]], ep := [.home 21 5], lin := [], sp := [] }, { id := 7, pre := [], ep := [.home 5 4], lin := [], sp := [] }]
theorem c56 : cC Try.prog Try.f56.ntmps an56 (Try.f56.body.getD .skip) = some A56 := by kernel_rfl
structure H56 (D : Den) (σ : Sig) (F : Nat) : Prop where
  mk ::
abbrev R56 (r : (List Int)) : (Nat → V) → Prop := RR Try.prog [.tmp 4] 0 false (Enc.enc (r : (List Int)))
section
variable {D : Den} {σ : Sig} {F : Nat} {r : (List Int)}
def s_l2Bits_j1 (F : Nat) (n_1 : Int) (code_2 : Int) (x_8 : Int) (c1 : (List Int) → Int → Option (List Int)) (out_15 : (List Int)) : Option (List Int) :=
  c1 out_15 (w64 (x_8 + 1))
theorem t_f56_j1 (H : H56 D σ F) (n_1 : Int) (code_2 : Int) (x_8 : Int) (c1 : (List Int) → Int → Option (List Int)) (Hc1 : ∀ (out_7 : (List Int)) (x_8 : Int) (s : Nat → V), Facts [(0, (.int .i64 n_1)), (1, (.int .i64 code_2)), (4, (.sl .nl (Enc.shp Int) 0 [])), (5, (encO (.at 5 []) (.of (out_7 : List Int)))), (6, (.int .i64 x_8))] s → c1 out_7 x_8 = some r → Run D σ (R56 r) (.run A56_1 [.lp A56_1, .bk 0, .sq A56_6]) s) (out_15 : (List Int)) (s : Nat → V) (hs : Facts [(0, (.int .i64 n_1)), (1, (.int .i64 code_2)), (4, (.sl .nl (Enc.shp Int) 0 [])), (5, (encO (.at 5 []) (.of (out_15 : List Int)))), (6, (.int .i64 x_8))] s) (h : s_l2Bits_j1 F n_1 code_2 x_8 c1 out_15 = some r) : Run D σ (R56 r) (.nrm [.bk 1, .sq A56_5, .lp A56_1, .bk 0, .sq A56_6]) s := by
  unfold s_l2Bits_j1 at h
  obtain ⟨h0, h1, h4, h5, h6⟩ := hs
  refine .nbk ?_
  refine .nsq ?_
  refine run_reg ?_
  refine e_end ?_
  refine g_v1 (t := 6) (u := (.int .i64 x_8)) (.int .i64 x_8) h6 rfl rfl ?_
  refine g_v1 (t := 11) (u := (.int .i64 x_8)) (.int .i64 (w64 (x_8 + 1))) rfl rfl rfl ?_
  refine g_v1 (t := 12) (u := (.int .i64 (w64 (x_8 + 1)))) (.int .i64 (w64 (x_8 + 1))) rfl rfl rfl ?_
  refine g_end ?_
  refine e_end ?_
  refine renew [(0, (.int .i64 n_1)), (1, (.int .i64 code_2)), (4, (.sl .nl (Enc.shp Int) 0 [])), (5, (encO (.at 5 []) (.of (out_15 : List Int)))), (6, (.int .i64 (w64 (x_8 + 1))))] ⟨h0, h1, h4, h5, rfl⟩ ?_
  rintro s ⟨h0, h1, h4, h5, h6⟩
  refine .nlp ?_
  exact Hc1 out_15 (w64 (x_8 + 1)) _ ⟨h0, h1, h4, h5, h6⟩ h
def s_l2Bits_l1 (F : Nat) (n_1 : Int) (code_2 : Int)  : Nat → (List Int) → Int → Option (List Int)
  | 0, _, _ => none
  | k + 1, out_7, x_8 =>
    bif decide (x_8 < n_1) then
      (shrI .i64 code_2 x_8).bind fun q_13 =>
      bif ((iand .i64 q_13 1) == 1) then
        (appL out_7 [x_8]).bind fun ap_16 =>
        s_l2Bits_j1 F n_1 code_2 x_8 (s_l2Bits_l1 F n_1 code_2 k) ap_16
      else
        s_l2Bits_j1 F n_1 code_2 x_8 (s_l2Bits_l1 F n_1 code_2 k) out_7
    else
      some out_7
theorem t_f56_l1 (H : H56 D σ F) (n_1 : Int) (code_2 : Int)  : ∀ (k : Nat) (out_7 : (List Int)) (x_8 : Int) (s : Nat → V), Facts [(0, (.int .i64 n_1)), (1, (.int .i64 code_2)), (4, (.sl .nl (Enc.shp Int) 0 [])), (5, (encO (.at 5 []) (.of (out_7 : List Int)))), (6, (.int .i64 x_8))] s → s_l2Bits_l1 F n_1 code_2 k out_7 x_8 = some r → Run D σ (R56 r) (.run A56_1 [.lp A56_1, .bk 0, .sq A56_6]) s := by
  intro k
  induction k with
  | zero => intro out_7 x_8 s _ h; exact nomatch (h : (none : Option _) = some r)
  | succ k ih =>
    intro out_7 x_8 s hs h
    rw [s_l2Bits_l1] at h
    obtain ⟨h0, h1, h4, h5, h6⟩ := hs
    refine .seq ?_
    refine .seq ?_
    refine run_reg ?_
    refine e_end ?_
    refine g_v1 (t := 6) (u := (.int .i64 x_8)) (.int .i64 x_8) h6 rfl rfl ?_
    refine g_v1 (t := 0) (u := (.int .i64 n_1)) (.int .i64 n_1) h0 rfl rfl ?_
    refine g_v2 (t1 := 8) (t2 := 9) (u1 := (.int .i64 x_8)) (u2 := (.int .i64 n_1)) (.bool (decide (x_8 < n_1))) rfl rfl rfl rfl ?_
    refine g_end ?_
    refine e_end ?_
    refine renew [(0, (.int .i64 n_1)), (1, (.int .i64 code_2)), (4, (.sl .nl (Enc.shp Int) 0 [])), (5, (encO (.at 5 []) (.of (out_7 : List Int)))), (6, (.int .i64 x_8)), (10, (.bool (decide (x_8 < n_1))))] ⟨h0, h1, h4, h5, h6, rfl⟩ ?_
    rintro s ⟨h0, h1, h4, h5, h6, h10⟩
    refine .nsq ?_
    refine run_cond (t := decide (x_8 < n_1)) h10 h (fun h => ?_) (fun h => ?_)
    · refine .skip ?_
      refine .nsq ?_
      refine .seq ?_
      refine .block ?_
      refine .seq ?_
      refine run_reg ?_
      refine e_end ?_
      refine g_v1 (t := 1) (u := (.int .i64 code_2)) (.int .i64 code_2) h1 rfl rfl ?_
      refine g_v1 (t := 6) (u := (.int .i64 x_8)) (.int .i64 x_8) h6 rfl rfl ?_
      obtain ⟨q_13, E_q_13, h⟩ := bind_some h
      refine g_v (.int .i64 q_13) (ev_shr rfl rfl E_q_13) ?_
      refine g_v1 (t := 15) (u := (.int .i64 q_13)) (.int .i64 (iand .i64 q_13 1)) rfl rfl rfl ?_
      refine g_v1 (t := 16) (u := (.int .i64 (iand .i64 q_13 1))) (.bool ((iand .i64 q_13 1) == 1)) rfl rfl rfl ?_
      refine g_end ?_
      refine e_end ?_
      refine renew [(0, (.int .i64 n_1)), (1, (.int .i64 code_2)), (4, (.sl .nl (Enc.shp Int) 0 [])), (5, (encO (.at 5 []) (.of (out_7 : List Int)))), (6, (.int .i64 x_8)), (17, (.bool ((iand .i64 q_13 1) == 1)))] ⟨h0, h1, h4, h5, h6, rfl⟩ ?_
      rintro s ⟨h0, h1, h4, h5, h6, h17⟩
      refine .nsq ?_
      refine run_cond (t := ((iand .i64 q_13 1) == 1)) h17 h (fun h => ?_) (fun h => ?_)
      · refine run_reg ?_
        refine e_clr ?_
        refine e_end ?_
        refine g_v1 (t := 5) (u := (encO (.at 5 []) (.of (out_7 : List Int)))) (encO (.at 5 []) (.of (out_7 : List Int))) (keep_clear (s := s) (pk := [20, 21]) h5 rfl (map_encO (r := 5) (p := []) rfl rfl)) rfl rfl ?_
        refine g_v1 (t := 6) (u := (.int .i64 x_8)) (.int .i64 x_8) (keep_clear (s := s) (pk := [20, 21]) h6 rfl rfl) rfl rfl ?_
        refine g_litL [(19, (.int .i64 x_8))] [Enc.enc (x_8 : Int)] rfl rfl rfl (gone_clear (s := s) (pk := [20, 21]) (t := 20) rfl) ?_
        obtain ⟨ap_16, E_ap_16, h⟩ := bind_some h
        refine g_app (q := 5) (p := []) (o := (.of (out_7 : List Int))) (ys := ([x_8] : List Int)) (t2 := (.at 20 [])) (lo2 := 0) rfl rfl rfl (gone_clear (s := s) (pk := [20, 21]) (t := 21) rfl) (appN_L (o := (.of (out_7 : List Int))) E_ap_16 trivial) (fun s_19 ha_19 => ?_)
        refine g_v1 (t := 21) (u := (encO (.at 21 []) (.of (ap_16 : List Int)))) (encO (.at 21 []) (.of (ap_16 : List Int))) rfl rfl rfl ?_
        refine g_end ?_
        refine e_home (r := 21) (x := 5) (v := (encO (.at 21 []) (.of (ap_16 : List Int)))) (by exact rfl) rfl (fun s_20 hg_20 => ?_)
        refine e_end ?_
        refine renew [(0, (.int .i64 n_1)), (1, (.int .i64 code_2)), (4, (.sl .nl (Enc.shp Int) 0 [])), (5, (encO (.at 5 []) (.of (ap_16 : List Int)))), (6, (.int .i64 x_8))] ⟨(hg_20 0 (.int .i64 n_1) (.int .i64 n_1) (show s_19 0 = (.int .i64 n_1) from keep_app ha_19 (keep_clear (s := s) (pk := [20, 21]) h0 rfl rfl) rfl) rfl), (hg_20 1 (.int .i64 code_2) (.int .i64 code_2) (show s_19 1 = (.int .i64 code_2) from keep_app ha_19 (keep_clear (s := s) (pk := [20, 21]) h1 rfl rfl) rfl) rfl), (hg_20 4 (.sl .nl (Enc.shp Int) 0 []) (.sl .nl (Enc.shp Int) 0 []) (show s_19 4 = (.sl .nl (Enc.shp Int) 0 []) from keep_app ha_19 (keep_clear (s := s) (pk := [20, 21]) h4 rfl rfl) rfl) rfl), (hg_20 5 (encO (.at 21 []) (.of (ap_16 : List Int))) (encO (.at 5 []) (.of (ap_16 : List Int))) rfl (map_encO (r := 21) (p := []) rfl rfl)), (hg_20 6 (.int .i64 x_8) (.int .i64 x_8) (show s_19 6 = (.int .i64 x_8) from keep_app ha_19 (keep_clear (s := s) (pk := [20, 21]) h6 rfl rfl) rfl) rfl)⟩ ?_
        rintro s ⟨h0, h1, h4, h5, h6⟩
        exact t_f56_j1 H n_1 code_2 x_8 (s_l2Bits_l1 F n_1 code_2 k) ih ap_16 _ ⟨h0, h1, h4, h5, h6⟩ h
      · refine .skip ?_
        exact t_f56_j1 H n_1 code_2 x_8 (s_l2Bits_l1 F n_1 code_2 k) ih out_7 _ ⟨h0, h1, h4, h5, h6⟩ h
    · refine .exit ?_
      refine .esq ?_
      refine .elp ?_
      refine .ebk ?_
      refine .nsq ?_
      refine .seq ?_
      refine run_reg ?_
      refine e_end ?_
      refine g_v1 (t := 5) (u := (encO (.at 5 []) (.of (out_7 : List Int)))) (encO (.at 5 []) (.of (out_7 : List Int))) h5 rfl rfl ?_
      refine g_v1 (t := 22) (u := (encO (.at 5 []) (.of (out_7 : List Int)))) (encO (.at 5 []) (.of (out_7 : List Int))) rfl rfl rfl ?_
      refine g_end ?_
      refine e_home (r := 5) (x := 4) (v := (encO (.at 5 []) (.of (out_7 : List Int)))) (by exact rfl) rfl (fun s_21 hg_21 => ?_)
      refine e_end ?_
      refine renew [(4, (encO (.at 4 []) (.of (out_7 : List Int))))] (hg_21 4 (encO (.at 5 []) (.of (out_7 : List Int))) (encO (.at 4 []) (.of (out_7 : List Int))) rfl (map_encO (r := 5) (p := []) rfl rfl)) ?_
      rintro s h4
      refine .nsq ?_
      refine .ret ?_
      have hr := Option.some.inj h
      subst hr
      exact rrA (res_tmp h4) (fin_retF (fin_own (o := .of out_7)) (mine_own rfl))
def s_l2Bits (F : Nat) (n_1 : Int) (code_2 : Int) : Option (List Int) :=
  s_l2Bits_l1 F n_1 code_2 F [] 0
theorem t56 (H : H56 D σ F) (n_1 : Int) (code_2 : Int) (s : Nat → V) (hs : Facts [(0, (.int .i64 n_1)), (1, (.int .i64 code_2))] s) (h : s_l2Bits F n_1 code_2 = some r) : Run D σ (R56 r) (.run A56 []) s := by
  unfold s_l2Bits at h
  obtain ⟨h0, h1⟩ := hs
  refine .seq ?_
  refine run_reg ?_
  refine e_end ?_
  refine g_v0 (.sl .nl (Enc.shp Int) 0 []) rfl rfl ?_
  refine g_end ?_
  refine e_end ?_
  refine renew [(0, (.int .i64 n_1)), (1, (.int .i64 code_2)), (4, (.sl .nl (Enc.shp Int) 0 []))] ⟨h0, h1, rfl⟩ ?_
  rintro s ⟨h0, h1, h4⟩
  refine .nsq ?_
  refine .seq ?_
  refine run_reg ?_
  refine e_clr ?_
  refine e_end ?_
  refine g_litL [] [] trivial rfl rfl (gone_clear (s := s) (pk := [7]) (t := 7) rfl) ?_
  refine g_v1 (t := 7) (u := (encO (.at 7 []) (.of ([] : List Int)))) (encO (.at 7 []) (.of ([] : List Int))) rfl rfl rfl ?_
  refine g_end ?_
  refine e_home (r := 7) (x := 5) (v := (encO (.at 7 []) (.of ([] : List Int)))) (by exact rfl) rfl (fun s_2 hg_2 => ?_)
  refine e_end ?_
  refine renew [(0, (.int .i64 n_1)), (1, (.int .i64 code_2)), (4, (.sl .nl (Enc.shp Int) 0 [])), (5, (encO (.at 5 []) (.of ([] : List Int))))] ⟨(hg_2 0 (.int .i64 n_1) (.int .i64 n_1) (keep_clear (s := s) (pk := [7]) h0 rfl rfl) rfl), (hg_2 1 (.int .i64 code_2) (.int .i64 code_2) (keep_clear (s := s) (pk := [7]) h1 rfl rfl) rfl), (hg_2 4 (.sl .nl (Enc.shp Int) 0 []) (.sl .nl (Enc.shp Int) 0 []) (keep_clear (s := s) (pk := [7]) h4 rfl rfl) rfl), (hg_2 5 (encO (.at 7 []) (.of ([] : List Int))) (encO (.at 5 []) (.of ([] : List Int))) rfl (map_encO (r := 7) (p := []) rfl rfl))⟩ ?_
  rintro s ⟨h0, h1, h4, h5⟩
  refine .nsq ?_
  refine .seq ?_
  refine .seq ?_
  refine run_reg ?_
  refine e_end ?_
  refine g_v0 (.int .i64 0) rfl rfl ?_
  refine g_end ?_
  refine e_end ?_
  refine renew [(0, (.int .i64 n_1)), (1, (.int .i64 code_2)), (4, (.sl .nl (Enc.shp Int) 0 [])), (5, (encO (.at 5 []) (.of ([] : List Int)))), (6, (.int .i64 0))] ⟨h0, h1, h4, h5, rfl⟩ ?_
  rintro s ⟨h0, h1, h4, h5, h6⟩
  refine .nsq ?_
  refine .block ?_
  refine .loop ?_
  exact t_f56_l1 H n_1 code_2 F [] 0 _ ⟨h0, h1, h4, h5, h6⟩ h
end
def e56 (F : Nat) : Ent := ⟨56, da (fun (x : (Int × Int × Unit)) => s_l2Bits F x.1 x.2.1) (fun (r : (List Int)) => (Enc.enc (r : (List Int)))), 0, false, selF []⟩
theorem p56 {F : Nat} {x0 : Int} {x1 : Int} {r : (List Int)} (h : s_l2Bits F x0 x1 = some r) : (e56 F).den [Enc.enc x0, Enc.enc x1] = some (Enc.enc (r : (List Int))) := da_put (f := fun (x : (Int × Int × Unit)) => s_l2Bits F x.1 x.2.1) (t := fun (r : (List Int)) => (Enc.enc (r : (List Int)))) (x0, x1, ()) h
theorem o56 {D : Den} {σ : Sig} {F : Nat} (hF : Fits2 Try.prog D σ) (H : H56 D σ F) : (e56 F).Ok Try.prog := by
  refine ok_of (f := 56) (show unk 56 = 56 from rfl) (fun args r h => ?_) ⟨Try.f56, Try.func56, rfl, rfl⟩
  obtain ⟨⟨x0, x1, _⟩, y, rfl, hy, rfl⟩ := da_open h
  exact contract_run hF (by kernel_rfl) Try.func56 rfl c56 (show 2 ≤ Try.f56.ntmps by decide) (t56 H x0 x1 _ ⟨rfl, rfl⟩ hy)
/- loop.example/g01109/spec.l1Has -/
def A68_2 : AC := (.cond (.t 9) .skip (.exit 0))
def A68_4 : AC := (.cond (.t 17) (.seq (.reg [] [(.mk (some 4) none false (.v (.mov (.k (.bool true)))))] []) .ret) .skip)
def A68_5 : AC := (.reg [] [(.mk (some 10) none false (.v (.mov (.t 5)))), (.mk (some 11) none false (.v (.bin .add (.t 10) (.k (.int .i64 (.ofNat 1)))))), (.mk (some 5) none false (.v (.mov (.t 11))))] [])
def A68_3 : AC := (.seq (.block 1 (.seq (.reg [] [(.mk (some 12) none false (.v (.mov (.t 0)))), (.mk (some 13) none false (.v (.mov (.t 5)))), (.mk (some 14) none false (.v (.idx (.t 12) (.t 13) 1))), (.mk (some 15) none false (.v (.load .s (.t 14)))), (.mk (some 16) none false (.v (.mov (.t 1)))), (.mk (some 17) none false (.v (.bin .eql (.t 15) (.t 16))))] []) A68_4)) A68_5)
def A68_1 : AC := (.seq (.seq (.reg [] [(.mk (some 6) none false (.v (.mov (.t 5)))), (.mk (some 7) none false (.v (.mov (.t 0)))), (.mk (some 8) none false (.v (.len (.t 7)))), (.mk (some 9) none false (.v (.bin .lss (.t 6) (.t 8))))] []) A68_2) A68_3)
def A68_6 : AC := (.seq (.reg [] [(.mk (some 4) none false (.v (.mov (.k (.bool false)))))] []) .ret)
def A68_8 : AC := (.block 0 (.loop A68_1))
def A68_7 : AC := (.seq (.seq (.reg [] [(.mk (some 5) none false (.v (.mov (.k (.int .i64 (.ofNat 0))))))] []) A68_8) A68_6)
def A68 : AC := (.seq (.reg [] [(.mk (some 4) none false (.v (.mov (.k (.bool false)))))] []) A68_7)
def an68 : List An := []
theorem c68 : cC Try.prog Try.f68.ntmps an68 (Try.f68.body.getD .skip) = some A68 := by kernel_rfl
structure H68 (D : Den) (σ : Sig) (F : Nat) : Prop where
  mk ::
abbrev R68 (r : Bool) : (Nat → V) → Prop := RR Try.prog [.tmp 4] 0 false (Enc.enc (r : Bool))
section
variable {D : Den} {σ : Sig} {F : Nat} {r : Bool}
def s_l1Has_l1 (F : Nat) (l_1 : (List Int)) (n_2 : Int)  : Nat → Int → Option Bool
  | 0, _ => none
  | k + 1, i_4 =>
    bif decide (i_4 < (l_1.length : Int)) then
      (idx l_1 i_4).bind fun e_6 =>
      bif (e_6 == n_2) then
        some true
      else
        (s_l1Has_l1 F l_1 n_2 k) (w64 (i_4 + 1))
    else
      some false
theorem t_f68_l1 (H : H68 D σ F) (l_1 : (List Int)) (n_2 : Int)  : ∀ (k : Nat) (i_4 : Int) (s : Nat → V), Facts [(0, (Enc.enc (l_1 : List Int))), (1, (.int .i64 n_2)), (4, (.bool false)), (5, (.int .i64 i_4))] s → s_l1Has_l1 F l_1 n_2 k i_4 = some r → Run D σ (R68 r) (.run A68_1 [.lp A68_1, .bk 0, .sq A68_6]) s := by
  intro k
  induction k with
  | zero => intro i_4 s _ h; exact nomatch (h : (none : Option _) = some r)
  | succ k ih =>
    intro i_4 s hs h
    rw [s_l1Has_l1] at h
    obtain ⟨h0, h1, h4, h5⟩ := hs
    refine .seq ?_
    refine .seq ?_
    refine run_reg ?_
    refine e_end ?_
    refine g_v1 (t := 5) (u := (.int .i64 i_4)) (.int .i64 i_4) h5 rfl rfl ?_
    refine g_v1 (t := 0) (u := (Enc.enc (l_1 : List Int))) (Enc.enc (l_1 : List Int)) h0 rfl rfl ?_
    refine g_v (.int .i64 (l_1.length : Int)) (ev_len (xs := l_1) rfl) ?_
    refine g_v2 (t1 := 6) (t2 := 8) (u1 := (.int .i64 i_4)) (u2 := (.int .i64 (l_1.length : Int))) (.bool (decide (i_4 < (l_1.length : Int)))) rfl rfl rfl rfl ?_
    refine g_end ?_
    refine e_end ?_
    refine renew [(0, (Enc.enc (l_1 : List Int))), (1, (.int .i64 n_2)), (4, (.bool false)), (5, (.int .i64 i_4)), (9, (.bool (decide (i_4 < (l_1.length : Int)))))] ⟨h0, h1, h4, h5, rfl⟩ ?_
    rintro s ⟨h0, h1, h4, h5, h9⟩
    refine .nsq ?_
    refine run_cond (t := decide (i_4 < (l_1.length : Int))) h9 h (fun h => ?_) (fun h => ?_)
    · refine .skip ?_
      refine .nsq ?_
      refine .seq ?_
      refine .block ?_
      refine .seq ?_
      refine run_reg ?_
      refine e_end ?_
      refine g_v1 (t := 0) (u := (Enc.enc (l_1 : List Int))) (Enc.enc (l_1 : List Int)) h0 rfl rfl ?_
      refine g_v1 (t := 5) (u := (.int .i64 i_4)) (.int .i64 i_4) h5 rfl rfl ?_
      obtain ⟨e_6, E_e_6, h⟩ := bind_some h
      refine g_v (.ref .sh 0 [] (.int .i64 e_6)) (ev_idx (t := .sh) (lo := 0) (xs := l_1) rfl rfl E_e_6 rfl rfl) ?_
      refine g_v1 (t := 14) (u := (.ref .sh 0 [] (.int .i64 e_6))) (.int .i64 e_6) rfl rfl rfl ?_
      refine g_v1 (t := 1) (u := (.int .i64 n_2)) (.int .i64 n_2) h1 rfl rfl ?_
      refine g_v2 (t1 := 15) (t2 := 16) (u1 := (.int .i64 e_6)) (u2 := (.int .i64 n_2)) (.bool (e_6 == n_2)) rfl rfl rfl rfl ?_
      refine g_end ?_
      refine e_end ?_
      refine renew [(0, (Enc.enc (l_1 : List Int))), (1, (.int .i64 n_2)), (4, (.bool false)), (5, (.int .i64 i_4)), (17, (.bool (e_6 == n_2)))] ⟨h0, h1, h4, h5, rfl⟩ ?_
      rintro s ⟨h0, h1, h4, h5, h17⟩
      refine .nsq ?_
      refine run_cond (t := (e_6 == n_2)) h17 h (fun h => ?_) (fun h => ?_)
      · refine .seq ?_
        refine run_reg ?_
        refine e_end ?_
        refine g_v0 (.bool true) rfl rfl ?_
        refine g_end ?_
        refine e_end ?_
        refine renew [(0, (Enc.enc (l_1 : List Int))), (1, (.int .i64 n_2)), (4, (.bool true)), (5, (.int .i64 i_4))] ⟨h0, h1, rfl, h5⟩ ?_
        rintro s ⟨h0, h1, h4, h5⟩
        refine .nsq ?_
        refine .ret ?_
        have hr := Option.some.inj h
        subst hr
        exact rrA (res_tmp h4) rfl
      · refine .skip ?_
        refine .nbk ?_
        refine .nsq ?_
        refine run_reg ?_
        refine e_end ?_
        refine g_v1 (t := 5) (u := (.int .i64 i_4)) (.int .i64 i_4) h5 rfl rfl ?_
        refine g_v1 (t := 10) (u := (.int .i64 i_4)) (.int .i64 (w64 (i_4 + 1))) rfl rfl rfl ?_
        refine g_v1 (t := 11) (u := (.int .i64 (w64 (i_4 + 1)))) (.int .i64 (w64 (i_4 + 1))) rfl rfl rfl ?_
        refine g_end ?_
        refine e_end ?_
        refine renew [(0, (Enc.enc (l_1 : List Int))), (1, (.int .i64 n_2)), (4, (.bool false)), (5, (.int .i64 (w64 (i_4 + 1))))] ⟨h0, h1, h4, rfl⟩ ?_
        rintro s ⟨h0, h1, h4, h5⟩
        refine .nlp ?_
        exact ih (w64 (i_4 + 1)) _ ⟨h0, h1, h4, h5⟩ h
    · refine .exit ?_
      refine .esq ?_
      refine .elp ?_
      refine .ebk ?_
      refine .nsq ?_
      refine .seq ?_
      refine run_reg ?_
      refine e_end ?_
      refine g_v0 (.bool false) rfl rfl ?_
      refine g_end ?_
      refine e_end ?_
      refine renew [(4, (.bool false))] rfl ?_
      rintro s h4
      refine .nsq ?_
      refine .ret ?_
      have hr := Option.some.inj h
      subst hr
      exact rrA (res_tmp h4) rfl
def s_l1Has (F : Nat) (l_1 : (List Int)) (n_2 : Int) : Option Bool :=
  s_l1Has_l1 F l_1 n_2 F 0
theorem t68 (H : H68 D σ F) (l_1 : (List Int)) (n_2 : Int) (s : Nat → V) (hs : Facts [(0, (Enc.enc (l_1 : List Int))), (1, (.int .i64 n_2))] s) (h : s_l1Has F l_1 n_2 = some r) : Run D σ (R68 r) (.run A68 []) s := by
  unfold s_l1Has at h
  obtain ⟨h0, h1⟩ := hs
  refine .seq ?_
  refine run_reg ?_
  refine e_end ?_
  refine g_v0 (.bool false) rfl rfl ?_
  refine g_end ?_
  refine e_end ?_
  refine renew [(0, (Enc.enc (l_1 : List Int))), (1, (.int .i64 n_2)), (4, (.bool false))] ⟨h0, h1, rfl⟩ ?_
  rintro s ⟨h0, h1, h4⟩
  refine .nsq ?_
  refine .seq ?_
  refine .seq ?_
  refine run_reg ?_
  refine e_end ?_
  refine g_v0 (.int .i64 0) rfl rfl ?_
  refine g_end ?_
  refine e_end ?_
  refine renew [(0, (Enc.enc (l_1 : List Int))), (1, (.int .i64 n_2)), (4, (.bool false)), (5, (.int .i64 0))] ⟨h0, h1, h4, rfl⟩ ?_
  rintro s ⟨h0, h1, h4, h5⟩
  refine .nsq ?_
  refine .block ?_
  refine .loop ?_
  exact t_f68_l1 H l_1 n_2 F 0 _ ⟨h0, h1, h4, h5⟩ h
end
def e68 (F : Nat) : Ent := ⟨68, da (fun (x : ((List Int) × Int × Unit)) => s_l1Has F x.1 x.2.1) (fun (r : Bool) => (Enc.enc (r : Bool))), 0, false, selF []⟩
theorem p68 {F : Nat} {x0 : (List Int)} {x1 : Int} {r : Bool} (h : s_l1Has F x0 x1 = some r) : (e68 F).den [Enc.enc x0, Enc.enc x1] = some (Enc.enc (r : Bool)) := da_put (f := fun (x : ((List Int) × Int × Unit)) => s_l1Has F x.1 x.2.1) (t := fun (r : Bool) => (Enc.enc (r : Bool))) (x0, x1, ()) h
theorem o68 {D : Den} {σ : Sig} {F : Nat} (hF : Fits2 Try.prog D σ) (H : H68 D σ F) : (e68 F).Ok Try.prog := by
  refine ok_of (f := 68) (show unk 68 = 68 from rfl) (fun args r h => ?_) ⟨Try.f68, Try.func68, rfl, rfl⟩
  obtain ⟨⟨x0, x1, _⟩, y, rfl, hy, rfl⟩ := da_open h
  exact contract_run hF (by kernel_rfl) Try.func68 rfl c68 (show 2 ≤ Try.f68.ntmps by decide) (t68 H x0 x1 _ ⟨rfl, rfl⟩ hy)
/- loop.example/g01109/spec.l2Near -/
def A97_2 : AC := (.cond (.t 13) .skip (.exit 0))
def A97_5 : AC := (.cond (.t 42) (.seq (.reg [] [(.mk (some 6) none false (.v (.mov (.k (.bool true)))))] []) .ret) .skip)
def A97_4 : AC := (.seq (.reg [] [(.mk (some 21) none false (.v (.idxA (.t 8) (.k (.int .i64 (.ofNat 0))) 2 1))), (.mk (some 22) none false (.v (.load .s (.t 21)))), (.mk (some 23) none false (.v (.mov (.t 1)))), (.mk (some 24) none false (.v (.bin .eql (.t 22) (.t 23)))), (.mk (some 25) none false (.v (.mov (.t 24)))), (.mk (some 26) (some (25, true)) false (.v (.idxA (.t 8) (.k (.int .i64 (.ofNat 1))) 2 1))), (.mk (some 27) (some (25, true)) false (.v (.load .s (.t 26)))), (.mk (some 28) (some (25, true)) false (.v (.mov (.t 2)))), (.mk (some 29) (some (25, true)) false (.v (.bin .eql (.t 27) (.t 28)))), (.mk (some 30) none false (.v (.pick (.t 25) (.t 29) (.k (.bool false))))), (.mk (some 31) none false (.v (.mov (.t 30)))), (.mk (some 32) (some (31, false)) false (.v (.idxA (.t 8) (.k (.int .i64 (.ofNat 0))) 2 1))), (.mk (some 33) (some (31, false)) false (.v (.load .s (.t 32)))), (.mk (some 34) (some (31, false)) false (.v (.mov (.t 2)))), (.mk (some 35) (some (31, false)) false (.v (.bin .eql (.t 33) (.t 34)))), (.mk (some 36) (some (31, false)) false (.v (.mov (.t 35)))), (.mk (some 37) (some (36, true)) false (.v (.idxA (.t 8) (.k (.int .i64 (.ofNat 1))) 2 1))), (.mk (some 38) (some (36, true)) false (.v (.load .s (.t 37)))), (.mk (some 39) (some (36, true)) false (.v (.mov (.t 1)))), (.mk (some 40) (some (36, true)) false (.v (.bin .eql (.t 38) (.t 39)))), (.mk (some 41) (some (31, false)) false (.v (.pick (.t 36) (.t 40) (.k (.bool false))))), (.mk (some 42) none false (.v (.pick (.t 31) (.k (.bool true)) (.t 41))))] []) A97_5)
def A97_6 : AC := (.reg [] [(.mk (some 14) none false (.v (.mov (.t 7)))), (.mk (some 15) none false (.v (.bin .add (.t 14) (.k (.int .i64 (.ofNat 1)))))), (.mk (some 7) none false (.v (.mov (.t 15))))] [])
def A97_3 : AC := (.seq (.block 1 (.seq (.reg [.clr [8]] [(.mk (some 16) none false (.v (.fld (.t 3) 1 1))), (.mk (some 17) none false (.v (.load .p (.t 16)))), (.mk (some 18) none false (.v (.mov (.t 7)))), (.mk (some 19) none false (.v (.idx (.t 17) (.t 18) 2))), (.mk (some 20) none false (.v (.load (.ag [.s, .s]) (.t 19)))), (.mk (some 8) none false (.alloc (.agg [(.int .i64 (.ofNat 0)), (.int .i64 (.ofNat 0))]))), (.mk none none false (.store (.ag [.s, .s]) (.t 8) (.t 20)))] []) A97_4)) A97_6)
def A97_1 : AC := (.seq (.seq (.reg [] [(.mk (some 9) none false (.v (.mov (.t 7)))), (.mk (some 10) none false (.v (.fld (.t 3) 1 1))), (.mk (some 11) none false (.v (.load .p (.t 10)))), (.mk (some 12) none false (.v (.len (.t 11)))), (.mk (some 13) none false (.v (.bin .lss (.t 9) (.t 12))))] []) A97_2) A97_3)
def A97_7 : AC := (.seq (.reg [] [(.mk (some 6) none false (.v (.mov (.k (.bool false)))))] []) .ret)
def A97_9 : AC := (.block 0 (.loop A97_1))
def A97_8 : AC := (.seq (.seq (.reg [] [(.mk (some 7) none false (.v (.mov (.k (.int .i64 (.ofNat 0))))))] []) A97_9) A97_7)
def A97 : AC := (.seq (.reg [.clr [3]] [(.mk (some 3) none false (.box (.t 0))), (.mk (some 6) none false (.v (.mov (.k (.bool false)))))] []) A97_8)
def an97 : List An := [{ id := 0, pre := [.clr [3]], ep := [], lin := [], sp := [] }, { id := 4, pre := [.clr [8]], ep := [], lin := [], sp := [] }]
theorem c97 : cC Try.prog Try.f97.ntmps an97 (Try.f97.body.getD .skip) = some A97 := by kernel_rfl
structure H97 (D : Den) (σ : Sig) (F : Nat) : Prop where
  mk ::
abbrev R97 (r : Bool) : (Nat → V) → Prop := RR Try.prog [.tmp 6] 0 false (Enc.enc (r : Bool))
section
variable {D : Den} {σ : Sig} {F : Nat} {r : Bool}
def s_l2Near_j1 (F : Nat) (a_2 : Int) (b_3 : Int) (g_1 : (Int × (List (Int × Int)))) (i_6 : Int) (c1 : Int → Option Bool) (t42_10 : Bool) : Option Bool :=
  bif t42_10 then
    some true
  else
    c1 (w64 (i_6 + 1))
theorem t_f97_j1 (H : H97 D σ F) (a_2 : Int) (b_3 : Int) (g_1 : (Int × (List (Int × Int)))) (i_6 : Int) (c1 : Int → Option Bool) (Hc1 : ∀ (i_6 : Int) (s : Nat → V), Facts [(1, (.int .i64 a_2)), (2, (.int .i64 b_3)), (3, (.ref (.bx 3) 0 [] (.agg [(.int .i64 g_1.1), (Enc.enc (g_1.2 : List (Int × Int)))]))), (6, (.bool false)), (7, (.int .i64 i_6))] s → c1 i_6 = some r → Run D σ (R97 r) (.run A97_1 [.lp A97_1, .bk 0, .sq A97_7]) s) (t42_10 : Bool) (s : Nat → V) (hs : Facts [(1, (.int .i64 a_2)), (2, (.int .i64 b_3)), (3, (.ref (.bx 3) 0 [] (.agg [(.int .i64 g_1.1), (Enc.enc (g_1.2 : List (Int × Int)))]))), (6, (.bool false)), (7, (.int .i64 i_6)), (42, (.bool t42_10))] s) (h : s_l2Near_j1 F a_2 b_3 g_1 i_6 c1 t42_10 = some r) : Run D σ (R97 r) (.nrm [.sq A97_5, .bk 1, .sq A97_6, .lp A97_1, .bk 0, .sq A97_7]) s := by
  unfold s_l2Near_j1 at h
  obtain ⟨h1, h2, h3, h6, h7, h42⟩ := hs
  refine .nsq ?_
  refine run_cond (t := t42_10) h42 h (fun h => ?_) (fun h => ?_)
  · refine .seq ?_
    refine run_reg ?_
    refine e_end ?_
    refine g_v0 (.bool true) rfl rfl ?_
    refine g_end ?_
    refine e_end ?_
    refine renew [(1, (.int .i64 a_2)), (2, (.int .i64 b_3)), (3, (.ref (.bx 3) 0 [] (.agg [(.int .i64 g_1.1), (Enc.enc (g_1.2 : List (Int × Int)))]))), (6, (.bool true)), (7, (.int .i64 i_6))] ⟨h1, h2, h3, rfl, h7⟩ ?_
    rintro s ⟨h1, h2, h3, h6, h7⟩
    refine .nsq ?_
    refine .ret ?_
    have hr := Option.some.inj h
    subst hr
    exact rrA (res_tmp h6) rfl
  · refine .skip ?_
    refine .nbk ?_
    refine .nsq ?_
    refine run_reg ?_
    refine e_end ?_
    refine g_v1 (t := 7) (u := (.int .i64 i_6)) (.int .i64 i_6) h7 rfl rfl ?_
    refine g_v1 (t := 14) (u := (.int .i64 i_6)) (.int .i64 (w64 (i_6 + 1))) rfl rfl rfl ?_
    refine g_v1 (t := 15) (u := (.int .i64 (w64 (i_6 + 1)))) (.int .i64 (w64 (i_6 + 1))) rfl rfl rfl ?_
    refine g_end ?_
    refine e_end ?_
    refine renew [(1, (.int .i64 a_2)), (2, (.int .i64 b_3)), (3, (.ref (.bx 3) 0 [] (.agg [(.int .i64 g_1.1), (Enc.enc (g_1.2 : List (Int × Int)))]))), (6, (.bool false)), (7, (.int .i64 (w64 (i_6 + 1))))] ⟨h1, h2, h3, h6, rfl⟩ ?_
    rintro s ⟨h1, h2, h3, h6, h7⟩
    refine .nlp ?_
    exact Hc1 (w64 (i_6 + 1)) _ ⟨h1, h2, h3, h6, h7⟩ h
def s_l2Near_l1 (F : Nat) (a_2 : Int) (b_3 : Int) (g_1 : (Int × (List (Int × Int))))  : Nat → Int → Option Bool
  | 0, _ => none
  | k + 1, i_6 =>
    bif decide (i_6 < (g_1.2.length : Int)) then
      (idx g_1.2 i_6).bind fun e_9 =>
      bif (e_9.1 == a_2) then
        bif (e_9.2 == b_3) then
          s_l2Near_j1 F a_2 b_3 g_1 i_6 (s_l2Near_l1 F a_2 b_3 g_1 k) true
        else
          bif (e_9.1 == b_3) then
            s_l2Near_j1 F a_2 b_3 g_1 i_6 (s_l2Near_l1 F a_2 b_3 g_1 k) (e_9.2 == a_2)
          else
            s_l2Near_j1 F a_2 b_3 g_1 i_6 (s_l2Near_l1 F a_2 b_3 g_1 k) false
      else
        bif (e_9.1 == b_3) then
          s_l2Near_j1 F a_2 b_3 g_1 i_6 (s_l2Near_l1 F a_2 b_3 g_1 k) (e_9.2 == a_2)
        else
          s_l2Near_j1 F a_2 b_3 g_1 i_6 (s_l2Near_l1 F a_2 b_3 g_1 k) false
    else
      some false
theorem t_f97_l1 (H : H97 D σ F) (a_2 : Int) (b_3 : Int) (g_1 : (Int × (List (Int × Int))))  : ∀ (k : Nat) (i_6 : Int) (s : Nat → V), Facts [(1, (.int .i64 a_2)), (2, (.int .i64 b_3)), (3, (.ref (.bx 3) 0 [] (.agg [(.int .i64 g_1.1), (Enc.enc (g_1.2 : List (Int × Int)))]))), (6, (.bool false)), (7, (.int .i64 i_6))] s → s_l2Near_l1 F a_2 b_3 g_1 k i_6 = some r → Run D σ (R97 r) (.run A97_1 [.lp A97_1, .bk 0, .sq A97_7]) s := by
  intro k
  induction k with
  | zero => intro i_6 s _ h; exact nomatch (h : (none : Option _) = some r)
  | succ k ih =>
    intro i_6 s hs h
    rw [s_l2Near_l1] at h
    obtain ⟨h1, h2, h3, h6, h7⟩ := hs
    refine .seq ?_
    refine .seq ?_
    refine run_reg ?_
    refine e_end ?_
    refine g_v1 (t := 7) (u := (.int .i64 i_6)) (.int .i64 i_6) h7 rfl rfl ?_
    refine g_v1 (t := 3) (u := (.ref (.bx 3) 0 [] (.agg [(.int .i64 g_1.1), (Enc.enc (g_1.2 : List (Int × Int)))]))) (.ref (.bx 3) 0 [1] (Enc.enc (g_1.2 : List (Int × Int)))) h3 rfl rfl ?_
    refine g_v1 (t := 10) (u := (.ref (.bx 3) 0 [1] (Enc.enc (g_1.2 : List (Int × Int))))) (Enc.enc (g_1.2 : List (Int × Int))) rfl rfl rfl ?_
    refine g_v (.int .i64 (g_1.2.length : Int)) (ev_len (xs := g_1.2) rfl) ?_
    refine g_v2 (t1 := 9) (t2 := 12) (u1 := (.int .i64 i_6)) (u2 := (.int .i64 (g_1.2.length : Int))) (.bool (decide (i_6 < (g_1.2.length : Int)))) rfl rfl rfl rfl ?_
    refine g_end ?_
    refine e_end ?_
    refine renew [(1, (.int .i64 a_2)), (2, (.int .i64 b_3)), (3, (.ref (.bx 3) 0 [] (.agg [(.int .i64 g_1.1), (Enc.enc (g_1.2 : List (Int × Int)))]))), (6, (.bool false)), (7, (.int .i64 i_6)), (13, (.bool (decide (i_6 < (g_1.2.length : Int)))))] ⟨h1, h2, h3, h6, h7, rfl⟩ ?_
    rintro s ⟨h1, h2, h3, h6, h7, h13⟩
    refine .nsq ?_
    refine run_cond (t := decide (i_6 < (g_1.2.length : Int))) h13 h (fun h => ?_) (fun h => ?_)
    · refine .skip ?_
      refine .nsq ?_
      refine .seq ?_
      refine .block ?_
      refine .seq ?_
      refine run_reg ?_
      refine e_clr ?_
      refine e_end ?_
      refine g_v1 (t := 3) (u := (.ref (.bx 3) 0 [] (.agg [(.int .i64 g_1.1), (Enc.enc (g_1.2 : List (Int × Int)))]))) (.ref (.bx 3) 0 [1] (Enc.enc (g_1.2 : List (Int × Int)))) (keep_clear (s := s) (pk := [8]) h3 rfl (map_bx rfl (map_agg (maps_cons rfl (maps_cons (Enc.map_enc _ (g_1.2 : List (Int × Int))) maps_nil))))) rfl rfl ?_
      refine g_v1 (t := 16) (u := (.ref (.bx 3) 0 [1] (Enc.enc (g_1.2 : List (Int × Int))))) (Enc.enc (g_1.2 : List (Int × Int))) rfl rfl rfl ?_
      refine g_v1 (t := 7) (u := (.int .i64 i_6)) (.int .i64 i_6) (keep_clear (s := s) (pk := [8]) h7 rfl rfl) rfl rfl ?_
      obtain ⟨e_9, E_e_9, h⟩ := bind_some h
      refine g_v (.ref .sh 0 [] (.agg [(.int .i64 e_9.1), (.int .i64 e_9.2)])) (ev_idx (t := .sh) (lo := 0) (xs := g_1.2) rfl rfl E_e_9 rfl rfl) ?_
      refine g_v1 (t := 19) (u := (.ref .sh 0 [] (.agg [(.int .i64 e_9.1), (.int .i64 e_9.2)]))) (.agg [(.int .i64 e_9.1), (.int .i64 e_9.2)]) rfl rfl rfl ?_
      refine g_alloc (gone_clear (s := s) (pk := [8]) (t := 8) rfl) ?_
      refine g_store (.agg [(.int .i64 e_9.1), (.int .i64 e_9.2)]) (rd_of rfl rfl) (rd_of rfl rfl) (by refine ⟨by decide, by decide, rfl, rfl, rfl, ?_⟩; first | rfl | simp [V.toks, V.tokss, Enc.toks_enc]) ?_
      refine g_end ?_
      refine e_end ?_
      refine renew [(1, (.int .i64 a_2)), (2, (.int .i64 b_3)), (3, (.ref (.bx 3) 0 [] (.agg [(.int .i64 g_1.1), (Enc.enc (g_1.2 : List (Int × Int)))]))), (6, (.bool false)), (7, (.int .i64 i_6)), (8, (.ref (.bx 8) 0 [] (.agg [(.int .i64 e_9.1), (.int .i64 e_9.2)])))] ⟨(keep_mut (keep_clear (s := s) (pk := [8]) h1 rfl rfl) rfl), (keep_mut (keep_clear (s := s) (pk := [8]) h2 rfl rfl) rfl), (keep_mut (keep_clear (s := s) (pk := [8]) h3 rfl (map_bx rfl (map_agg (maps_cons rfl (maps_cons (Enc.map_enc _ (g_1.2 : List (Int × Int))) maps_nil))))) (mut_ref_ne rfl rfl (mut_agg (muts_cons rfl (muts_cons (Enc.mut_enc _ _ _ _ (g_1.2 : List (Int × Int))) rfl))))), (keep_mut (keep_clear (s := s) (pk := [8]) h6 rfl rfl) rfl), (keep_mut (keep_clear (s := s) (pk := [8]) h7 rfl rfl) rfl), (keep_mut rfl rfl)⟩ ?_
      rintro s ⟨h1, h2, h3, h6, h7, h8⟩
      refine .nsq ?_
      refine .seq ?_
      refine run_reg ?_
      refine e_end ?_
      refine g_v1 (t := 8) (u := (.ref (.bx 8) 0 [] (.agg [(.int .i64 e_9.1), (.int .i64 e_9.2)]))) (.ref (.bx 8) 0 [0] (.int .i64 e_9.1)) h8 rfl rfl ?_
      refine g_v1 (t := 21) (u := (.ref (.bx 8) 0 [0] (.int .i64 e_9.1))) (.int .i64 e_9.1) rfl rfl rfl ?_
      refine g_v1 (t := 1) (u := (.int .i64 a_2)) (.int .i64 a_2) h1 rfl rfl ?_
      refine g_v2 (t1 := 22) (t2 := 23) (u1 := (.int .i64 e_9.1)) (u2 := (.int .i64 a_2)) (.bool (e_9.1 == a_2)) rfl rfl rfl rfl ?_
      refine g_v1 (t := 24) (u := (.bool (e_9.1 == a_2))) (.bool (e_9.1 == a_2)) rfl rfl rfl ?_
      refine split_on (c := (e_9.1 == a_2)) h (fun hg5 h => ?_) (fun hg5 h => ?_)
      · refine g_yes (Eq.trans (b := .bool (e_9.1 == a_2)) rfl (congrArg V.bool hg5)) (g_v1 (t := 8) (u := (.ref (.bx 8) 0 [] (.agg [(.int .i64 e_9.1), (.int .i64 e_9.2)]))) (.ref (.bx 8) 0 [1] (.int .i64 e_9.2)) h8 rfl rfl ?_)
        refine g_yes (Eq.trans (b := .bool (e_9.1 == a_2)) rfl (congrArg V.bool hg5)) (g_v1 (t := 26) (u := (.ref (.bx 8) 0 [1] (.int .i64 e_9.2))) (.int .i64 e_9.2) rfl rfl rfl ?_)
        refine g_yes (Eq.trans (b := .bool (e_9.1 == a_2)) rfl (congrArg V.bool hg5)) (g_v1 (t := 2) (u := (.int .i64 b_3)) (.int .i64 b_3) h2 rfl rfl ?_)
        refine g_yes (Eq.trans (b := .bool (e_9.1 == a_2)) rfl (congrArg V.bool hg5)) (g_v2 (t1 := 27) (t2 := 28) (u1 := (.int .i64 e_9.2)) (u2 := (.int .i64 b_3)) (.bool (e_9.2 == b_3)) rfl rfl rfl rfl ?_)
        refine g_v2 (t1 := 25) (t2 := 29) (u1 := (.bool true)) (u2 := (.bool (e_9.2 == b_3))) (.bool (e_9.2 == b_3)) (Eq.trans (b := .bool (e_9.1 == a_2)) rfl (congrArg V.bool hg5)) rfl rfl rfl ?_
        refine g_v1 (t := 30) (u := (.bool (e_9.2 == b_3))) (.bool (e_9.2 == b_3)) rfl rfl rfl ?_
        refine split_on (c := (e_9.2 == b_3)) h (fun hg11 h => ?_) (fun hg11 h => ?_)
        · refine g_no (Eq.trans (b := .bool (e_9.2 == b_3)) rfl (congrArg V.bool hg11)) ?_
          refine g_no (Eq.trans (b := .bool (e_9.2 == b_3)) rfl (congrArg V.bool hg11)) ?_
          refine g_no (Eq.trans (b := .bool (e_9.2 == b_3)) rfl (congrArg V.bool hg11)) ?_
          refine g_no (Eq.trans (b := .bool (e_9.2 == b_3)) rfl (congrArg V.bool hg11)) ?_
          refine g_no (Eq.trans (b := .bool (e_9.2 == b_3)) rfl (congrArg V.bool hg11)) ?_
          refine g_skip rfl ?_
          refine g_skip rfl ?_
          refine g_skip rfl ?_
          refine g_skip rfl ?_
          refine g_no (Eq.trans (b := .bool (e_9.2 == b_3)) rfl (congrArg V.bool hg11)) ?_
          refine g_v2 (t1 := 31) (t2 := 41) (u1 := (.bool true)) (u2 := (.tup [])) (.bool true) (Eq.trans (b := .bool (e_9.2 == b_3)) rfl (congrArg V.bool hg11)) rfl rfl rfl ?_
          refine g_end ?_
          refine e_end ?_
          refine renew [(1, (.int .i64 a_2)), (2, (.int .i64 b_3)), (3, (.ref (.bx 3) 0 [] (.agg [(.int .i64 g_1.1), (Enc.enc (g_1.2 : List (Int × Int)))]))), (6, (.bool false)), (7, (.int .i64 i_6)), (42, (.bool true))] ⟨h1, h2, h3, h6, h7, rfl⟩ ?_
          rintro s ⟨h1, h2, h3, h6, h7, h42⟩
          exact t_f97_j1 H a_2 b_3 g_1 i_6 (s_l2Near_l1 F a_2 b_3 g_1 k) ih true _ ⟨h1, h2, h3, h6, h7, h42⟩ h
        · refine g_yes (Eq.trans (b := .bool (e_9.2 == b_3)) rfl (congrArg V.bool hg11)) (g_v1 (t := 8) (u := (.ref (.bx 8) 0 [] (.agg [(.int .i64 e_9.1), (.int .i64 e_9.2)]))) (.ref (.bx 8) 0 [0] (.int .i64 e_9.1)) h8 rfl rfl ?_)
          refine g_yes (Eq.trans (b := .bool (e_9.2 == b_3)) rfl (congrArg V.bool hg11)) (g_v1 (t := 32) (u := (.ref (.bx 8) 0 [0] (.int .i64 e_9.1))) (.int .i64 e_9.1) rfl rfl rfl ?_)
          refine g_yes (Eq.trans (b := .bool (e_9.2 == b_3)) rfl (congrArg V.bool hg11)) (g_v1 (t := 2) (u := (.int .i64 b_3)) (.int .i64 b_3) h2 rfl rfl ?_)
          refine g_yes (Eq.trans (b := .bool (e_9.2 == b_3)) rfl (congrArg V.bool hg11)) (g_v2 (t1 := 33) (t2 := 34) (u1 := (.int .i64 e_9.1)) (u2 := (.int .i64 b_3)) (.bool (e_9.1 == b_3)) rfl rfl rfl rfl ?_)
          refine g_yes (Eq.trans (b := .bool (e_9.2 == b_3)) rfl (congrArg V.bool hg11)) (g_v1 (t := 35) (u := (.bool (e_9.1 == b_3))) (.bool (e_9.1 == b_3)) rfl rfl rfl ?_)
          refine split_on (c := (e_9.1 == b_3)) h (fun hg16 h => ?_) (fun hg16 h => ?_)
          · refine g_yes (Eq.trans (b := .bool (e_9.1 == b_3)) rfl (congrArg V.bool hg16)) (g_v1 (t := 8) (u := (.ref (.bx 8) 0 [] (.agg [(.int .i64 e_9.1), (.int .i64 e_9.2)]))) (.ref (.bx 8) 0 [1] (.int .i64 e_9.2)) h8 rfl rfl ?_)
            refine g_yes (Eq.trans (b := .bool (e_9.1 == b_3)) rfl (congrArg V.bool hg16)) (g_v1 (t := 37) (u := (.ref (.bx 8) 0 [1] (.int .i64 e_9.2))) (.int .i64 e_9.2) rfl rfl rfl ?_)
            refine g_yes (Eq.trans (b := .bool (e_9.1 == b_3)) rfl (congrArg V.bool hg16)) (g_v1 (t := 1) (u := (.int .i64 a_2)) (.int .i64 a_2) h1 rfl rfl ?_)
            refine g_yes (Eq.trans (b := .bool (e_9.1 == b_3)) rfl (congrArg V.bool hg16)) (g_v2 (t1 := 38) (t2 := 39) (u1 := (.int .i64 e_9.2)) (u2 := (.int .i64 a_2)) (.bool (e_9.2 == a_2)) rfl rfl rfl rfl ?_)
            refine g_yes (Eq.trans (b := .bool (e_9.2 == b_3)) rfl (congrArg V.bool hg11)) (g_v2 (t1 := 36) (t2 := 40) (u1 := (.bool true)) (u2 := (.bool (e_9.2 == a_2))) (.bool (e_9.2 == a_2)) (Eq.trans (b := .bool (e_9.1 == b_3)) rfl (congrArg V.bool hg16)) rfl rfl rfl ?_)
            refine g_v2 (t1 := 31) (t2 := 41) (u1 := (.bool false)) (u2 := (.bool (e_9.2 == a_2))) (.bool (e_9.2 == a_2)) (Eq.trans (b := .bool (e_9.2 == b_3)) rfl (congrArg V.bool hg11)) rfl rfl rfl ?_
            refine g_end ?_
            refine e_end ?_
            refine renew [(1, (.int .i64 a_2)), (2, (.int .i64 b_3)), (3, (.ref (.bx 3) 0 [] (.agg [(.int .i64 g_1.1), (Enc.enc (g_1.2 : List (Int × Int)))]))), (6, (.bool false)), (7, (.int .i64 i_6)), (42, (.bool (e_9.2 == a_2)))] ⟨h1, h2, h3, h6, h7, rfl⟩ ?_
            rintro s ⟨h1, h2, h3, h6, h7, h42⟩
            exact t_f97_j1 H a_2 b_3 g_1 i_6 (s_l2Near_l1 F a_2 b_3 g_1 k) ih (e_9.2 == a_2) _ ⟨h1, h2, h3, h6, h7, h42⟩ h
          · refine g_no (Eq.trans (b := .bool (e_9.1 == b_3)) rfl (congrArg V.bool hg16)) ?_
            refine g_no (Eq.trans (b := .bool (e_9.1 == b_3)) rfl (congrArg V.bool hg16)) ?_
            refine g_no (Eq.trans (b := .bool (e_9.1 == b_3)) rfl (congrArg V.bool hg16)) ?_
            refine g_no (Eq.trans (b := .bool (e_9.1 == b_3)) rfl (congrArg V.bool hg16)) ?_
            refine g_yes (Eq.trans (b := .bool (e_9.2 == b_3)) rfl (congrArg V.bool hg11)) (g_v2 (t1 := 36) (t2 := 40) (u1 := (.bool false)) (u2 := (.tup [])) (.bool false) (Eq.trans (b := .bool (e_9.1 == b_3)) rfl (congrArg V.bool hg16)) rfl rfl rfl ?_)
            refine g_v2 (t1 := 31) (t2 := 41) (u1 := (.bool false)) (u2 := (.bool false)) (.bool false) (Eq.trans (b := .bool (e_9.2 == b_3)) rfl (congrArg V.bool hg11)) rfl rfl rfl ?_
            refine g_end ?_
            refine e_end ?_
            refine renew [(1, (.int .i64 a_2)), (2, (.int .i64 b_3)), (3, (.ref (.bx 3) 0 [] (.agg [(.int .i64 g_1.1), (Enc.enc (g_1.2 : List (Int × Int)))]))), (6, (.bool false)), (7, (.int .i64 i_6)), (42, (.bool false))] ⟨h1, h2, h3, h6, h7, rfl⟩ ?_
            rintro s ⟨h1, h2, h3, h6, h7, h42⟩
            exact t_f97_j1 H a_2 b_3 g_1 i_6 (s_l2Near_l1 F a_2 b_3 g_1 k) ih false _ ⟨h1, h2, h3, h6, h7, h42⟩ h
      · refine g_no (Eq.trans (b := .bool (e_9.1 == a_2)) rfl (congrArg V.bool hg5)) ?_
        refine g_no (Eq.trans (b := .bool (e_9.1 == a_2)) rfl (congrArg V.bool hg5)) ?_
        refine g_no (Eq.trans (b := .bool (e_9.1 == a_2)) rfl (congrArg V.bool hg5)) ?_
        refine g_no (Eq.trans (b := .bool (e_9.1 == a_2)) rfl (congrArg V.bool hg5)) ?_
        refine g_v2 (t1 := 25) (t2 := 29) (u1 := (.bool false)) (u2 := (.tup [])) (.bool false) (Eq.trans (b := .bool (e_9.1 == a_2)) rfl (congrArg V.bool hg5)) rfl rfl rfl ?_
        refine g_v1 (t := 30) (u := (.bool false)) (.bool false) rfl rfl rfl ?_
        refine g_yes rfl (g_v1 (t := 8) (u := (.ref (.bx 8) 0 [] (.agg [(.int .i64 e_9.1), (.int .i64 e_9.2)]))) (.ref (.bx 8) 0 [0] (.int .i64 e_9.1)) h8 rfl rfl ?_)
        refine g_yes rfl (g_v1 (t := 32) (u := (.ref (.bx 8) 0 [0] (.int .i64 e_9.1))) (.int .i64 e_9.1) rfl rfl rfl ?_)
        refine g_yes rfl (g_v1 (t := 2) (u := (.int .i64 b_3)) (.int .i64 b_3) h2 rfl rfl ?_)
        refine g_yes rfl (g_v2 (t1 := 33) (t2 := 34) (u1 := (.int .i64 e_9.1)) (u2 := (.int .i64 b_3)) (.bool (e_9.1 == b_3)) rfl rfl rfl rfl ?_)
        refine g_yes rfl (g_v1 (t := 35) (u := (.bool (e_9.1 == b_3))) (.bool (e_9.1 == b_3)) rfl rfl rfl ?_)
        refine split_on (c := (e_9.1 == b_3)) h (fun hg16 h => ?_) (fun hg16 h => ?_)
        · refine g_yes (Eq.trans (b := .bool (e_9.1 == b_3)) rfl (congrArg V.bool hg16)) (g_v1 (t := 8) (u := (.ref (.bx 8) 0 [] (.agg [(.int .i64 e_9.1), (.int .i64 e_9.2)]))) (.ref (.bx 8) 0 [1] (.int .i64 e_9.2)) h8 rfl rfl ?_)
          refine g_yes (Eq.trans (b := .bool (e_9.1 == b_3)) rfl (congrArg V.bool hg16)) (g_v1 (t := 37) (u := (.ref (.bx 8) 0 [1] (.int .i64 e_9.2))) (.int .i64 e_9.2) rfl rfl rfl ?_)
          refine g_yes (Eq.trans (b := .bool (e_9.1 == b_3)) rfl (congrArg V.bool hg16)) (g_v1 (t := 1) (u := (.int .i64 a_2)) (.int .i64 a_2) h1 rfl rfl ?_)
          refine g_yes (Eq.trans (b := .bool (e_9.1 == b_3)) rfl (congrArg V.bool hg16)) (g_v2 (t1 := 38) (t2 := 39) (u1 := (.int .i64 e_9.2)) (u2 := (.int .i64 a_2)) (.bool (e_9.2 == a_2)) rfl rfl rfl rfl ?_)
          refine g_yes rfl (g_v2 (t1 := 36) (t2 := 40) (u1 := (.bool true)) (u2 := (.bool (e_9.2 == a_2))) (.bool (e_9.2 == a_2)) (Eq.trans (b := .bool (e_9.1 == b_3)) rfl (congrArg V.bool hg16)) rfl rfl rfl ?_)
          refine g_v2 (t1 := 31) (t2 := 41) (u1 := (.bool false)) (u2 := (.bool (e_9.2 == a_2))) (.bool (e_9.2 == a_2)) rfl rfl rfl rfl ?_
          refine g_end ?_
          refine e_end ?_
          refine renew [(1, (.int .i64 a_2)), (2, (.int .i64 b_3)), (3, (.ref (.bx 3) 0 [] (.agg [(.int .i64 g_1.1), (Enc.enc (g_1.2 : List (Int × Int)))]))), (6, (.bool false)), (7, (.int .i64 i_6)), (42, (.bool (e_9.2 == a_2)))] ⟨h1, h2, h3, h6, h7, rfl⟩ ?_
          rintro s ⟨h1, h2, h3, h6, h7, h42⟩
          exact t_f97_j1 H a_2 b_3 g_1 i_6 (s_l2Near_l1 F a_2 b_3 g_1 k) ih (e_9.2 == a_2) _ ⟨h1, h2, h3, h6, h7, h42⟩ h
        · refine g_no (Eq.trans (b := .bool (e_9.1 == b_3)) rfl (congrArg V.bool hg16)) ?_
          refine g_no (Eq.trans (b := .bool (e_9.1 == b_3)) rfl (congrArg V.bool hg16)) ?_
          refine g_no (Eq.trans (b := .bool (e_9.1 == b_3)) rfl (congrArg V.bool hg16)) ?_
          refine g_no (Eq.trans (b := .bool (e_9.1 == b_3)) rfl (congrArg V.bool hg16)) ?_
          refine g_yes rfl (g_v2 (t1 := 36) (t2 := 40) (u1 := (.bool false)) (u2 := (.tup [])) (.bool false) (Eq.trans (b := .bool (e_9.1 == b_3)) rfl (congrArg V.bool hg16)) rfl rfl rfl ?_)
          refine g_v2 (t1 := 31) (t2 := 41) (u1 := (.bool false)) (u2 := (.bool false)) (.bool false) rfl rfl rfl rfl ?_
          refine g_end ?_
          refine e_end ?_
          refine renew [(1, (.int .i64 a_2)), (2, (.int .i64 b_3)), (3, (.ref (.bx 3) 0 [] (.agg [(.int .i64 g_1.1), (Enc.enc (g_1.2 : List (Int × Int)))]))), (6, (.bool false)), (7, (.int .i64 i_6)), (42, (.bool false))] ⟨h1, h2, h3, h6, h7, rfl⟩ ?_
          rintro s ⟨h1, h2, h3, h6, h7, h42⟩
          exact t_f97_j1 H a_2 b_3 g_1 i_6 (s_l2Near_l1 F a_2 b_3 g_1 k) ih false _ ⟨h1, h2, h3, h6, h7, h42⟩ h
    · refine .exit ?_
      refine .esq ?_
      refine .elp ?_
      refine .ebk ?_
      refine .nsq ?_
      refine .seq ?_
      refine run_reg ?_
      refine e_end ?_
      refine g_v0 (.bool false) rfl rfl ?_
      refine g_end ?_
      refine e_end ?_
      refine renew [(6, (.bool false))] rfl ?_
      rintro s h6
      refine .nsq ?_
      refine .ret ?_
      have hr := Option.some.inj h
      subst hr
      exact rrA (res_tmp h6) rfl
def s_l2Near (F : Nat) (g_1 : (Int × (List (Int × Int)))) (a_2 : Int) (b_3 : Int) : Option Bool :=
  s_l2Near_l1 F a_2 b_3 g_1 F 0
theorem t97 (H : H97 D σ F) (g_1 : (Int × (List (Int × Int)))) (a_2 : Int) (b_3 : Int) (s : Nat → V) (hs : Facts [(0, (.agg [(.int .i64 g_1.1), (Enc.enc (g_1.2 : List (Int × Int)))])), (1, (.int .i64 a_2)), (2, (.int .i64 b_3))] s) (h : s_l2Near F g_1 a_2 b_3 = some r) : Run D σ (R97 r) (.run A97 []) s := by
  unfold s_l2Near at h
  obtain ⟨h0, h1, h2⟩ := hs
  refine .seq ?_
  refine run_reg ?_
  refine e_clr ?_
  refine e_end ?_
  refine g_box (.agg [(.int .i64 g_1.1), (Enc.enc (g_1.2 : List (Int × Int)))]) (rd_of (keep_clear (s := s) (pk := [3]) h0 rfl (map_agg (maps_cons rfl (maps_cons (Enc.map_enc _ (g_1.2 : List (Int × Int))) maps_nil)))) rfl) (gone_clear (s := s) (pk := [3]) (t := 3) rfl) rfl ?_
  refine g_v0 (.bool false) rfl rfl ?_
  refine g_end ?_
  refine e_end ?_
  refine renew [(1, (.int .i64 a_2)), (2, (.int .i64 b_3)), (3, (.ref (.bx 3) 0 [] (.agg [(.int .i64 g_1.1), (Enc.enc (g_1.2 : List (Int × Int)))]))), (6, (.bool false))] ⟨(keep_clear (s := s) (pk := [3]) h1 rfl rfl), (keep_clear (s := s) (pk := [3]) h2 rfl rfl), rfl, rfl⟩ ?_
  rintro s ⟨h1, h2, h3, h6⟩
  refine .nsq ?_
  refine .seq ?_
  refine .seq ?_
  refine run_reg ?_
  refine e_end ?_
  refine g_v0 (.int .i64 0) rfl rfl ?_
  refine g_end ?_
  refine e_end ?_
  refine renew [(1, (.int .i64 a_2)), (2, (.int .i64 b_3)), (3, (.ref (.bx 3) 0 [] (.agg [(.int .i64 g_1.1), (Enc.enc (g_1.2 : List (Int × Int)))]))), (6, (.bool false)), (7, (.int .i64 0))] ⟨h1, h2, h3, h6, rfl⟩ ?_
  rintro s ⟨h1, h2, h3, h6, h7⟩
  refine .nsq ?_
  refine .block ?_
  refine .loop ?_
  exact t_f97_l1 H a_2 b_3 g_1 F 0 _ ⟨h1, h2, h3, h6, h7⟩ h
end
def e97 (F : Nat) : Ent := ⟨97, da (fun (x : ((Int × (List (Int × Int))) × Int × Int × Unit)) => s_l2Near F x.1 x.2.1 x.2.2.1) (fun (r : Bool) => (Enc.enc (r : Bool))), 0, false, selF []⟩
theorem p97 {F : Nat} {x0 : (Int × (List (Int × Int)))} {x1 : Int} {x2 : Int} {r : Bool} (h : s_l2Near F x0 x1 x2 = some r) : (e97 F).den [Enc.enc x0, Enc.enc x1, Enc.enc x2] = some (Enc.enc (r : Bool)) := da_put (f := fun (x : ((Int × (List (Int × Int))) × Int × Int × Unit)) => s_l2Near F x.1 x.2.1 x.2.2.1) (t := fun (r : Bool) => (Enc.enc (r : Bool))) (x0, x1, x2, ()) h
theorem o97 {D : Den} {σ : Sig} {F : Nat} (hF : Fits2 Try.prog D σ) (H : H97 D σ F) : (e97 F).Ok Try.prog := by
  refine ok_of (f := 97) (show unk 97 = 97 from rfl) (fun args r h => ?_) ⟨Try.f97, Try.func97, rfl, rfl⟩
  obtain ⟨⟨x0, x1, x2, _⟩, y, rfl, hy, rfl⟩ := da_open h
  exact contract_run hF (by kernel_rfl) Try.func97 rfl c97 (show 3 ≤ Try.f97.ntmps by decide) (t97 H x0 x1 x2 _ ⟨rfl, rfl, rfl⟩ hy)
/- loop.example/g01109/spec.l2Neighbors -/
def A107_2 : AC := (.cond (.t 11) .skip (.exit 0))
def A107_4 : AC := (.cond (.t 17) (.reg [.clr [20, 21]] [(.mk (some 18) none false (.v (.mov (.t 5)))), (.mk (some 19) none false (.v (.mov (.t 6)))), (.mk (some 20) none false (.lit (.int .i64 (.ofNat 0)) 1 [(0, 0, (.t 19))])), (.mk (some 21) none false (.app .s (.t 18) (.t 20))), (.mk (some 5) none false (.v (.mov (.t 21))))] [.home 21 5]) .skip)
def A107_5 : AC := (.reg [] [(.mk (some 12) none false (.v (.mov (.t 6)))), (.mk (some 13) none false (.v (.bin .add (.t 12) (.k (.int .i64 (.ofNat 1)))))), (.mk (some 6) none false (.v (.mov (.t 13))))] [])
def A107_3 : AC := (.seq (.block 1 (.seq (.reg [] [(.mk (some 14) none false (.v (.load (.ag [.s, .p]) (.t 2)))), (.mk (some 15) none false (.v (.mov (.t 1)))), (.mk (some 16) none false (.v (.mov (.t 6)))), (.mk (some 17) none false (.call (.k (.fn 97 [] [])) [(.t 14), (.t 15), (.t 16)]))] []) A107_4)) A107_5)
def A107_1 : AC := (.seq (.seq (.reg [] [(.mk (some 8) none false (.v (.mov (.t 6)))), (.mk (some 9) none false (.v (.fld (.t 2) 0 0))), (.mk (some 10) none false (.v (.load .s (.t 9)))), (.mk (some 11) none false (.v (.bin .lss (.t 8) (.t 10))))] []) A107_2) A107_3)
def A107_6 : AC := (.seq (.reg [] [(.mk (some 22) none false (.v (.mov (.t 5)))), (.mk (some 4) none false (.v (.mov (.t 22))))] [.home 5 4]) .ret)
def A107_9 : AC := (.block 0 (.loop A107_1))
def A107_8 : AC := (.seq (.seq (.reg [] [(.mk (some 6) none false (.v (.mov (.k (.int .i64 (.ofNat 0))))))] []) A107_9) A107_6)
def A107_7 : AC := (.seq (.reg [.clr [7]] [(.mk (some 7) none false (.lit (.int .i64 (.ofNat 0)) 0 [])), (.mk (some 5) none false (.v (.mov (.t 7))))] [.home 7 5]) A107_8)
def A107 : AC := (.seq (.reg [.clr [2]] [(.mk (some 2) none false (.box (.t 0))), (.mk (some 4) none false (.v (.mov (.k (.sl .nl .s 0 [])))))] []) A107_7)
def an107 : List An := [{ id := 0, pre := [.clr [2]], ep := [], lin := [], sp := [] }, { id := 1, pre := [.clr [7]], ep := [.home 7 5], lin := [], sp := [] }, { id := 6, pre := [.clr [20, 21]], ep := [.home 21 5], lin := [], sp := [] }, { id := 7, pre := [], ep := [.home 5 4], lin := [], sp := [] }]
theorem c107 : cC Try.prog Try.f107.ntmps an107 (Try.f107.body.getD .skip) = some A107 := by kernel_rfl
structure H107 (D : Den) (σ : Sig) (F : Nat) : Prop where
  c97 : ∀ (x0 : (Int × (List (Int × Int)))) (x1 : Int) (x2 : Int) r, s_l2Near F x0 x1 x2 = some r → D 97 [Enc.enc x0, Enc.enc x1, Enc.enc x2] = some (Enc.enc (r : Bool))
  g97 : σ 97 = some (0, false)
abbrev R107 (r : (List Int)) : (Nat → V) → Prop := RR Try.prog [.tmp 4] 0 false (Enc.enc (r : (List Int)))
section
variable {D : Den} {σ : Sig} {F : Nat} {r : (List Int)}
def s_l2Neighbors_j1 (F : Nat) (x_2 : Int) (g_1 : (Int × (List (Int × Int)))) (y_8 : Int) (c1 : (List Int) → Int → Option (List Int)) (out_15 : (List Int)) : Option (List Int) :=
  c1 out_15 (w64 (y_8 + 1))
theorem t_f107_j1 (H : H107 D σ F) (x_2 : Int) (g_1 : (Int × (List (Int × Int)))) (y_8 : Int) (c1 : (List Int) → Int → Option (List Int)) (Hc1 : ∀ (out_7 : (List Int)) (y_8 : Int) (s : Nat → V), Facts [(1, (.int .i64 x_2)), (2, (.ref (.bx 2) 0 [] (.agg [(.int .i64 g_1.1), (Enc.enc (g_1.2 : List (Int × Int)))]))), (4, (.sl .nl (Enc.shp Int) 0 [])), (5, (encO (.at 5 []) (.of (out_7 : List Int)))), (6, (.int .i64 y_8))] s → c1 out_7 y_8 = some r → Run D σ (R107 r) (.run A107_1 [.lp A107_1, .bk 0, .sq A107_6]) s) (out_15 : (List Int)) (s : Nat → V) (hs : Facts [(1, (.int .i64 x_2)), (2, (.ref (.bx 2) 0 [] (.agg [(.int .i64 g_1.1), (Enc.enc (g_1.2 : List (Int × Int)))]))), (4, (.sl .nl (Enc.shp Int) 0 [])), (5, (encO (.at 5 []) (.of (out_15 : List Int)))), (6, (.int .i64 y_8))] s) (h : s_l2Neighbors_j1 F x_2 g_1 y_8 c1 out_15 = some r) : Run D σ (R107 r) (.nrm [.bk 1, .sq A107_5, .lp A107_1, .bk 0, .sq A107_6]) s := by
  unfold s_l2Neighbors_j1 at h
  obtain ⟨h1, h2, h4, h5, h6⟩ := hs
  refine .nbk ?_
  refine .nsq ?_
  refine run_reg ?_
  refine e_end ?_
  refine g_v1 (t := 6) (u := (.int .i64 y_8)) (.int .i64 y_8) h6 rfl rfl ?_
  refine g_v1 (t := 12) (u := (.int .i64 y_8)) (.int .i64 (w64 (y_8 + 1))) rfl rfl rfl ?_
  refine g_v1 (t := 13) (u := (.int .i64 (w64 (y_8 + 1)))) (.int .i64 (w64 (y_8 + 1))) rfl rfl rfl ?_
  refine g_end ?_
  refine e_end ?_
  refine renew [(1, (.int .i64 x_2)), (2, (.ref (.bx 2) 0 [] (.agg [(.int .i64 g_1.1), (Enc.enc (g_1.2 : List (Int × Int)))]))), (4, (.sl .nl (Enc.shp Int) 0 [])), (5, (encO (.at 5 []) (.of (out_15 : List Int)))), (6, (.int .i64 (w64 (y_8 + 1))))] ⟨h1, h2, h4, h5, rfl⟩ ?_
  rintro s ⟨h1, h2, h4, h5, h6⟩
  refine .nlp ?_
  exact Hc1 out_15 (w64 (y_8 + 1)) _ ⟨h1, h2, h4, h5, h6⟩ h
def s_l2Neighbors_l1 (F : Nat) (x_2 : Int) (g_1 : (Int × (List (Int × Int))))  : Nat → (List Int) → Int → Option (List Int)
  | 0, _, _ => none
  | k + 1, out_7, y_8 =>
    bif decide (y_8 < g_1.1) then
      (s_l2Near F g_1 x_2 y_8).bind fun r_13 =>
      bif r_13 then
        (appL out_7 [y_8]).bind fun ap_16 =>
        s_l2Neighbors_j1 F x_2 g_1 y_8 (s_l2Neighbors_l1 F x_2 g_1 k) ap_16
      else
        s_l2Neighbors_j1 F x_2 g_1 y_8 (s_l2Neighbors_l1 F x_2 g_1 k) out_7
    else
      some out_7
theorem t_f107_l1 (H : H107 D σ F) (x_2 : Int) (g_1 : (Int × (List (Int × Int))))  : ∀ (k : Nat) (out_7 : (List Int)) (y_8 : Int) (s : Nat → V), Facts [(1, (.int .i64 x_2)), (2, (.ref (.bx 2) 0 [] (.agg [(.int .i64 g_1.1), (Enc.enc (g_1.2 : List (Int × Int)))]))), (4, (.sl .nl (Enc.shp Int) 0 [])), (5, (encO (.at 5 []) (.of (out_7 : List Int)))), (6, (.int .i64 y_8))] s → s_l2Neighbors_l1 F x_2 g_1 k out_7 y_8 = some r → Run D σ (R107 r) (.run A107_1 [.lp A107_1, .bk 0, .sq A107_6]) s := by
  intro k
  induction k with
  | zero => intro out_7 y_8 s _ h; exact nomatch (h : (none : Option _) = some r)
  | succ k ih =>
    intro out_7 y_8 s hs h
    rw [s_l2Neighbors_l1] at h
    obtain ⟨h1, h2, h4, h5, h6⟩ := hs
    refine .seq ?_
    refine .seq ?_
    refine run_reg ?_
    refine e_end ?_
    refine g_v1 (t := 6) (u := (.int .i64 y_8)) (.int .i64 y_8) h6 rfl rfl ?_
    refine g_v1 (t := 2) (u := (.ref (.bx 2) 0 [] (.agg [(.int .i64 g_1.1), (Enc.enc (g_1.2 : List (Int × Int)))]))) (.ref (.bx 2) 0 [0] (.int .i64 g_1.1)) h2 rfl rfl ?_
    refine g_v1 (t := 9) (u := (.ref (.bx 2) 0 [0] (.int .i64 g_1.1))) (.int .i64 g_1.1) rfl rfl rfl ?_
    refine g_v2 (t1 := 8) (t2 := 10) (u1 := (.int .i64 y_8)) (u2 := (.int .i64 g_1.1)) (.bool (decide (y_8 < g_1.1))) rfl rfl rfl rfl ?_
    refine g_end ?_
    refine e_end ?_
    refine renew [(1, (.int .i64 x_2)), (2, (.ref (.bx 2) 0 [] (.agg [(.int .i64 g_1.1), (Enc.enc (g_1.2 : List (Int × Int)))]))), (4, (.sl .nl (Enc.shp Int) 0 [])), (5, (encO (.at 5 []) (.of (out_7 : List Int)))), (6, (.int .i64 y_8)), (11, (.bool (decide (y_8 < g_1.1))))] ⟨h1, h2, h4, h5, h6, rfl⟩ ?_
    rintro s ⟨h1, h2, h4, h5, h6, h11⟩
    refine .nsq ?_
    refine run_cond (t := decide (y_8 < g_1.1)) h11 h (fun h => ?_) (fun h => ?_)
    · refine .skip ?_
      refine .nsq ?_
      refine .seq ?_
      refine .block ?_
      refine .seq ?_
      refine run_reg ?_
      refine e_end ?_
      refine g_v1 (t := 2) (u := (.ref (.bx 2) 0 [] (.agg [(.int .i64 g_1.1), (Enc.enc (g_1.2 : List (Int × Int)))]))) (.agg [(.int .i64 g_1.1), (Enc.enc (g_1.2 : List (Int × Int)))]) h2 rfl rfl ?_
      refine g_v1 (t := 1) (u := (.int .i64 x_2)) (.int .i64 x_2) h1 rfl rfl ?_
      refine g_v1 (t := 6) (u := (.int .i64 y_8)) (.int .i64 y_8) h6 rfl rfl ?_
      obtain ⟨r_13, E_r_13, h⟩ := bind_some h
      refine g_call (m := 0) (al := false) (r := (Enc.enc (r_13 : Bool))) [Enc.enc (g_1 : (Int × (List (Int × Int)))), Enc.enc (x_2 : Int), Enc.enc (y_8 : Int)] (ta_cons (v := (.agg [(.int .i64 g_1.1), (Enc.enc (g_1.2 : List (Int × Int)))])) rfl rfl (Enc.erase_enc (g_1 : (Int × (List (Int × Int))))) (ta_cons (v := (.int .i64 x_2)) rfl rfl rfl (ta_cons (v := (.int .i64 y_8)) rfl rfl rfl ta_nil))) (H.c97 _ _ _ _ E_r_13) H.g97 rfl rfl rfl rfl ?_
      refine g_end ?_
      refine e_end ?_
      refine renew [(1, (.int .i64 x_2)), (2, (.ref (.bx 2) 0 [] (.agg [(.int .i64 g_1.1), (Enc.enc (g_1.2 : List (Int × Int)))]))), (4, (.sl .nl (Enc.shp Int) 0 [])), (5, (encO (.at 5 []) (.of (out_7 : List Int)))), (6, (.int .i64 y_8)), (17, (.bool r_13))] ⟨h1, h2, h4, h5, h6, rfl⟩ ?_
      rintro s ⟨h1, h2, h4, h5, h6, h17⟩
      refine .nsq ?_
      refine run_cond (t := r_13) h17 h (fun h => ?_) (fun h => ?_)
      · refine run_reg ?_
        refine e_clr ?_
        refine e_end ?_
        refine g_v1 (t := 5) (u := (encO (.at 5 []) (.of (out_7 : List Int)))) (encO (.at 5 []) (.of (out_7 : List Int))) (keep_clear (s := s) (pk := [20, 21]) h5 rfl (map_encO (r := 5) (p := []) rfl rfl)) rfl rfl ?_
        refine g_v1 (t := 6) (u := (.int .i64 y_8)) (.int .i64 y_8) (keep_clear (s := s) (pk := [20, 21]) h6 rfl rfl) rfl rfl ?_
        refine g_litL [(19, (.int .i64 y_8))] [Enc.enc (y_8 : Int)] rfl rfl rfl (gone_clear (s := s) (pk := [20, 21]) (t := 20) rfl) ?_
        obtain ⟨ap_16, E_ap_16, h⟩ := bind_some h
        refine g_app (q := 5) (p := []) (o := (.of (out_7 : List Int))) (ys := ([y_8] : List Int)) (t2 := (.at 20 [])) (lo2 := 0) rfl rfl rfl (gone_clear (s := s) (pk := [20, 21]) (t := 21) rfl) (appN_L (o := (.of (out_7 : List Int))) E_ap_16 trivial) (fun s_20 ha_20 => ?_)
        refine g_v1 (t := 21) (u := (encO (.at 21 []) (.of (ap_16 : List Int)))) (encO (.at 21 []) (.of (ap_16 : List Int))) rfl rfl rfl ?_
        refine g_end ?_
        refine e_home (r := 21) (x := 5) (v := (encO (.at 21 []) (.of (ap_16 : List Int)))) (by exact rfl) rfl (fun s_21 hg_21 => ?_)
        refine e_end ?_
        refine renew [(1, (.int .i64 x_2)), (2, (.ref (.bx 2) 0 [] (.agg [(.int .i64 g_1.1), (Enc.enc (g_1.2 : List (Int × Int)))]))), (4, (.sl .nl (Enc.shp Int) 0 [])), (5, (encO (.at 5 []) (.of (ap_16 : List Int)))), (6, (.int .i64 y_8))] ⟨(hg_21 1 (.int .i64 x_2) (.int .i64 x_2) (show s_20 1 = (.int .i64 x_2) from keep_app ha_20 (keep_clear (s := s) (pk := [20, 21]) h1 rfl rfl) rfl) rfl), (hg_21 2 (.ref (.bx 2) 0 [] (.agg [(.int .i64 g_1.1), (Enc.enc (g_1.2 : List (Int × Int)))])) (.ref (.bx 2) 0 [] (.agg [(.int .i64 g_1.1), (Enc.enc (g_1.2 : List (Int × Int)))])) (show s_20 2 = (.ref (.bx 2) 0 [] (.agg [(.int .i64 g_1.1), (Enc.enc (g_1.2 : List (Int × Int)))])) from keep_app ha_20 (keep_clear (s := s) (pk := [20, 21]) h2 rfl (map_bx rfl (map_agg (maps_cons rfl (maps_cons (Enc.map_enc _ (g_1.2 : List (Int × Int))) maps_nil))))) (map_bx rfl (map_agg (maps_cons rfl (maps_cons (Enc.map_enc _ (g_1.2 : List (Int × Int))) maps_nil))))) (map_bx rfl (map_agg (maps_cons rfl (maps_cons (Enc.map_enc _ (g_1.2 : List (Int × Int))) maps_nil))))), (hg_21 4 (.sl .nl (Enc.shp Int) 0 []) (.sl .nl (Enc.shp Int) 0 []) (show s_20 4 = (.sl .nl (Enc.shp Int) 0 []) from keep_app ha_20 (keep_clear (s := s) (pk := [20, 21]) h4 rfl rfl) rfl) rfl), (hg_21 5 (encO (.at 21 []) (.of (ap_16 : List Int))) (encO (.at 5 []) (.of (ap_16 : List Int))) rfl (map_encO (r := 21) (p := []) rfl rfl)), (hg_21 6 (.int .i64 y_8) (.int .i64 y_8) (show s_20 6 = (.int .i64 y_8) from keep_app ha_20 (keep_clear (s := s) (pk := [20, 21]) h6 rfl rfl) rfl) rfl)⟩ ?_
        rintro s ⟨h1, h2, h4, h5, h6⟩
        exact t_f107_j1 H x_2 g_1 y_8 (s_l2Neighbors_l1 F x_2 g_1 k) ih ap_16 _ ⟨h1, h2, h4, h5, h6⟩ h
      · refine .skip ?_
        exact t_f107_j1 H x_2 g_1 y_8 (s_l2Neighbors_l1 F x_2 g_1 k) ih out_7 _ ⟨h1, h2, h4, h5, h6⟩ h
    · refine .exit ?_
      refine .esq ?_
      refine .elp ?_
      refine .ebk ?_
      refine .nsq ?_
      refine .seq ?_
      refine run_reg ?_
      refine e_end ?_
      refine g_v1 (t := 5) (u := (encO (.at 5 []) (.of (out_7 : List Int)))) (encO (.at 5 []) (.of (out_7 : List Int))) h5 rfl rfl ?_
      refine g_v1 (t := 22) (u := (encO (.at 5 []) (.of (out_7 : List Int)))) (encO (.at 5 []) (.of (out_7 : List Int))) rfl rfl rfl ?_
      refine g_end ?_
      refine e_home (r := 5) (x := 4) (v := (encO (.at 5 []) (.of (out_7 : List Int)))) (by exact rfl) rfl (fun s_22 hg_22 => ?_)
      refine e_end ?_
      refine renew [(4, (encO (.at 4 []) (.of (out_7 : List Int))))] (hg_22 4 (encO (.at 5 []) (.of (out_7 : List Int))) (encO (.at 4 []) (.of (out_7 : List Int))) rfl (map_encO (r := 5) (p := []) rfl rfl)) ?_
      rintro s h4
      refine .nsq ?_
      refine .ret ?_
      have hr := Option.some.inj h
      subst hr
      exact rrA (res_tmp h4) (fin_retF (fin_own (o := .of out_7)) (mine_own rfl))
def s_l2Neighbors (F : Nat) (g_1 : (Int × (List (Int × Int)))) (x_2 : Int) : Option (List Int) :=
  s_l2Neighbors_l1 F x_2 g_1 F [] 0
theorem t107 (H : H107 D σ F) (g_1 : (Int × (List (Int × Int)))) (x_2 : Int) (s : Nat → V) (hs : Facts [(0, (.agg [(.int .i64 g_1.1), (Enc.enc (g_1.2 : List (Int × Int)))])), (1, (.int .i64 x_2))] s) (h : s_l2Neighbors F g_1 x_2 = some r) : Run D σ (R107 r) (.run A107 []) s := by
  unfold s_l2Neighbors at h
  obtain ⟨h0, h1⟩ := hs
  refine .seq ?_
  refine run_reg ?_
  refine e_clr ?_
  refine e_end ?_
  refine g_box (.agg [(.int .i64 g_1.1), (Enc.enc (g_1.2 : List (Int × Int)))]) (rd_of (keep_clear (s := s) (pk := [2]) h0 rfl (map_agg (maps_cons rfl (maps_cons (Enc.map_enc _ (g_1.2 : List (Int × Int))) maps_nil)))) rfl) (gone_clear (s := s) (pk := [2]) (t := 2) rfl) rfl ?_
  refine g_v0 (.sl .nl (Enc.shp Int) 0 []) rfl rfl ?_
  refine g_end ?_
  refine e_end ?_
  refine renew [(1, (.int .i64 x_2)), (2, (.ref (.bx 2) 0 [] (.agg [(.int .i64 g_1.1), (Enc.enc (g_1.2 : List (Int × Int)))]))), (4, (.sl .nl (Enc.shp Int) 0 []))] ⟨(keep_clear (s := s) (pk := [2]) h1 rfl rfl), rfl, rfl⟩ ?_
  rintro s ⟨h1, h2, h4⟩
  refine .nsq ?_
  refine .seq ?_
  refine run_reg ?_
  refine e_clr ?_
  refine e_end ?_
  refine g_litL [] [] trivial rfl rfl (gone_clear (s := s) (pk := [7]) (t := 7) rfl) ?_
  refine g_v1 (t := 7) (u := (encO (.at 7 []) (.of ([] : List Int)))) (encO (.at 7 []) (.of ([] : List Int))) rfl rfl rfl ?_
  refine g_end ?_
  refine e_home (r := 7) (x := 5) (v := (encO (.at 7 []) (.of ([] : List Int)))) (by exact rfl) rfl (fun s_3 hg_3 => ?_)
  refine e_end ?_
  refine renew [(1, (.int .i64 x_2)), (2, (.ref (.bx 2) 0 [] (.agg [(.int .i64 g_1.1), (Enc.enc (g_1.2 : List (Int × Int)))]))), (4, (.sl .nl (Enc.shp Int) 0 [])), (5, (encO (.at 5 []) (.of ([] : List Int))))] ⟨(hg_3 1 (.int .i64 x_2) (.int .i64 x_2) (keep_clear (s := s) (pk := [7]) h1 rfl rfl) rfl), (hg_3 2 (.ref (.bx 2) 0 [] (.agg [(.int .i64 g_1.1), (Enc.enc (g_1.2 : List (Int × Int)))])) (.ref (.bx 2) 0 [] (.agg [(.int .i64 g_1.1), (Enc.enc (g_1.2 : List (Int × Int)))])) (keep_clear (s := s) (pk := [7]) h2 rfl (map_bx rfl (map_agg (maps_cons rfl (maps_cons (Enc.map_enc _ (g_1.2 : List (Int × Int))) maps_nil))))) (map_bx rfl (map_agg (maps_cons rfl (maps_cons (Enc.map_enc _ (g_1.2 : List (Int × Int))) maps_nil))))), (hg_3 4 (.sl .nl (Enc.shp Int) 0 []) (.sl .nl (Enc.shp Int) 0 []) (keep_clear (s := s) (pk := [7]) h4 rfl rfl) rfl), (hg_3 5 (encO (.at 7 []) (.of ([] : List Int))) (encO (.at 5 []) (.of ([] : List Int))) rfl (map_encO (r := 7) (p := []) rfl rfl))⟩ ?_
  rintro s ⟨h1, h2, h4, h5⟩
  refine .nsq ?_
  refine .seq ?_
  refine .seq ?_
  refine run_reg ?_
  refine e_end ?_
  refine g_v0 (.int .i64 0) rfl rfl ?_
  refine g_end ?_
  refine e_end ?_
  refine renew [(1, (.int .i64 x_2)), (2, (.ref (.bx 2) 0 [] (.agg [(.int .i64 g_1.1), (Enc.enc (g_1.2 : List (Int × Int)))]))), (4, (.sl .nl (Enc.shp Int) 0 [])), (5, (encO (.at 5 []) (.of ([] : List Int)))), (6, (.int .i64 0))] ⟨h1, h2, h4, h5, rfl⟩ ?_
  rintro s ⟨h1, h2, h4, h5, h6⟩
  refine .nsq ?_
  refine .block ?_
  refine .loop ?_
  exact t_f107_l1 H x_2 g_1 F [] 0 _ ⟨h1, h2, h4, h5, h6⟩ h
end
def e107 (F : Nat) : Ent := ⟨107, da (fun (x : ((Int × (List (Int × Int))) × Int × Unit)) => s_l2Neighbors F x.1 x.2.1) (fun (r : (List Int)) => (Enc.enc (r : (List Int)))), 0, false, selF []⟩
theorem p107 {F : Nat} {x0 : (Int × (List (Int × Int)))} {x1 : Int} {r : (List Int)} (h : s_l2Neighbors F x0 x1 = some r) : (e107 F).den [Enc.enc x0, Enc.enc x1] = some (Enc.enc (r : (List Int))) := da_put (f := fun (x : ((Int × (List (Int × Int))) × Int × Unit)) => s_l2Neighbors F x.1 x.2.1) (t := fun (r : (List Int)) => (Enc.enc (r : (List Int)))) (x0, x1, ()) h
theorem o107 {D : Den} {σ : Sig} {F : Nat} (hF : Fits2 Try.prog D σ) (H : H107 D σ F) : (e107 F).Ok Try.prog := by
  refine ok_of (f := 107) (show unk 107 = 107 from rfl) (fun args r h => ?_) ⟨Try.f107, Try.func107, rfl, rfl⟩
  obtain ⟨⟨x0, x1, _⟩, y, rfl, hy, rfl⟩ := da_open h
  exact contract_run hF (by kernel_rfl) Try.func107 rfl c107 (show 2 ≤ Try.f107.ntmps by decide) (t107 H x0 x1 _ ⟨rfl, rfl⟩ hy)
/- loop.example/g01109/spec.l1Put -/
def A77o_1 : AC := (.cond (.t 31) (.seq (.reg [] [(.mk (some 32) none false (.v (.mov (.t 0)))), (.mk (some 4) none false (.v (.mov (.t 32))))] []) .ret) .skip)
def A77o_2 : AC := (.seq (.reg [.clr [33, 37, 39, 40, 44]] [(.mk (some 33) none true (.lit (.int .i64 (.ofNat 0)) 0 [])), (.mk (some 34) none false (.v (.mov (.t 0)))), (.mk (some 35) none false (.v (.mov (.t 5)))), (.mk (some 36) none false (.v (.slice (.t 34) none (some (.t 35)) 1))), (.mk (some 37) none true (.appS .s (.t 33) (.t 36))), (.mk (some 38) none false (.v (.mov (.t 1)))), (.mk (some 39) none false (.lit (.int .i64 (.ofNat 0)) 1 [(0, 0, (.t 38))])), (.mk (some 40) none true (.appS .s (.t 37) (.t 39))), (.mk (some 41) none false (.v (.mov (.t 0)))), (.mk (some 42) none false (.v (.mov (.t 5)))), (.mk (some 43) none false (.v (.slice (.t 41) (some (.t 42)) none 1))), (.mk (some 44) none false (.appS .s (.t 40) (.t 43))), (.mk (some 4) none false (.v (.mov (.t 44))))] [.home 44 4]) .ret)
def A77o_4 : AC := (.cond (.t 17) .skip (.exit 0))
def A77o_5 : AC := (.block 1 (.reg [] [(.mk (some 18) none false (.v (.mov (.t 5)))), (.mk (some 19) none false (.v (.bin .add (.t 18) (.k (.int .i64 (.ofNat 1)))))), (.mk (some 5) none false (.v (.mov (.t 19))))] []))
def A77o_3 : AC := (.seq (.seq (.reg [] [(.mk (some 6) none false (.v (.mov (.t 5)))), (.mk (some 7) none false (.v (.mov (.t 0)))), (.mk (some 8) none false (.v (.len (.t 7)))), (.mk (some 9) none false (.v (.bin .lss (.t 6) (.t 8)))), (.mk (some 10) none false (.v (.mov (.t 9)))), (.mk (some 11) (some (10, true)) false (.v (.mov (.t 0)))), (.mk (some 12) (some (10, true)) false (.v (.mov (.t 5)))), (.mk (some 13) (some (10, true)) false (.v (.idx (.t 11) (.t 12) 1))), (.mk (some 14) (some (10, true)) false (.v (.load .s (.t 13)))), (.mk (some 15) (some (10, true)) false (.v (.mov (.t 1)))), (.mk (some 16) (some (10, true)) false (.v (.bin .lss (.t 14) (.t 15)))), (.mk (some 17) none false (.v (.pick (.t 10) (.t 16) (.k (.bool false)))))] []) A77o_4) A77o_5)
def A77o_6 : AC := (.seq (.seq (.reg [] [(.mk (some 20) none false (.v (.mov (.t 5)))), (.mk (some 21) none false (.v (.mov (.t 0)))), (.mk (some 22) none false (.v (.len (.t 21)))), (.mk (some 23) none false (.v (.bin .lss (.t 20) (.t 22)))), (.mk (some 24) none false (.v (.mov (.t 23)))), (.mk (some 25) (some (24, true)) false (.v (.mov (.t 0)))), (.mk (some 26) (some (24, true)) false (.v (.mov (.t 5)))), (.mk (some 27) (some (24, true)) false (.v (.idx (.t 25) (.t 26) 1))), (.mk (some 28) (some (24, true)) false (.v (.load .s (.t 27)))), (.mk (some 29) (some (24, true)) false (.v (.mov (.t 1)))), (.mk (some 30) (some (24, true)) false (.v (.bin .eql (.t 28) (.t 29)))), (.mk (some 31) none false (.v (.pick (.t 24) (.t 30) (.k (.bool false)))))] []) A77o_1) A77o_2)
def A77o_8 : AC := (.seq (.block 0 (.loop A77o_3)) A77o_6)
def A77o_7 : AC := (.seq (.reg [] [(.mk (some 5) none false (.v (.mov (.k (.int .i64 (.ofNat 0))))))] []) A77o_8)
def A77o : AC := (.seq (.reg [] [(.mk (some 4) none false (.v (.mov (.k (.sl .nl .s 0 [])))))] [.home pinR 0]) A77o_7)
def an77o : List An := [{ id := 0, pre := [], ep := [.home pinR 0], lin := [], sp := [] }, { id := 6, pre := [.clr [33, 37, 39, 40, 44]], ep := [.home 44 4], lin := [0, 4, 7], sp := [4, 7, 11] }]
theorem c77o : cC Try.prog Try.f77.ntmps an77o (Try.f77.body.getD .skip) = some A77o := by kernel_rfl
structure H77o (D : Den) (σ : Sig) (F : Nat) : Prop where
  mk ::
abbrev R77o (r : (NL Int)) : (Nat → V) → Prop := RR Try.prog [.tmp 4] 1 false (encO .sh (r : NL Int))
section
variable {D : Den} {σ : Sig} {F : Nat} {r : (NL Int)}
def s_l1Put_o_j1 (F : Nat) (l_1 : (On Int)) (n_2 : Int) (k_6 : Int)  (t31_13 : Bool) : Option (NL Int) :=
  bif t31_13 then
    some l_1.v
  else
    (ofNL l_1.v).bind fun li_14 =>
    (sub li_14 0 k_6).bind fun sub_15 =>
    (appL [] sub_15).bind fun ap_16 =>
    (appL ap_16 [n_2]).bind fun ap_17 =>
    (sub li_14 k_6 (li_14.length : Int)).bind fun sub_18 =>
    (appL ap_17 sub_18).bind fun ap_19 =>
    some (.of ap_19)
theorem t_f77o_j1 (H : H77o D σ F) (l_1 : (On Int)) (n_2 : Int) (k_6 : Int)  (t31_13 : Bool) (s : Nat → V) (hs : Facts [(0, (encO (.at 0 []) (l_1.v : NL Int))), (1, (.int .i64 n_2)), (4, (.sl .nl (Enc.shp Int) 0 [])), (5, (.int .i64 k_6)), (31, (.bool t31_13))] s) (h : s_l1Put_o_j1 F l_1 n_2 k_6  t31_13 = some r) : Run D σ (R77o r) (.nrm [.sq A77o_1, .sq A77o_2]) s := by
  unfold s_l1Put_o_j1 at h
  obtain ⟨h0, h1, h4, h5, h31⟩ := hs
  refine .nsq ?_
  refine run_cond (t := t31_13) h31 h (fun h => ?_) (fun h => ?_)
  · refine .seq ?_
    refine run_reg ?_
    refine e_end ?_
    refine g_v (encO (.at 0 []) (l_1.v : NL Int)) (ev_mov h0 ok_encO) ?_
    refine g_v (encO (.at 0 []) (l_1.v : NL Int)) (ev_mov rfl ok_encO) ?_
    refine g_end ?_
    refine e_end ?_
    refine renew [(0, (encO (.at 0 []) (l_1.v : NL Int))), (1, (.int .i64 n_2)), (4, (encO (.at 0 []) (l_1.v : NL Int))), (5, (.int .i64 k_6))] ⟨h0, h1, rfl, h5⟩ ?_
    rintro s ⟨h0, h1, h4, h5⟩
    refine .nsq ?_
    refine .ret ?_
    have hr := Option.some.inj h
    subst hr
    exact rrA (res_tmp h4) (fin_retO (finO_own (o := (l_1.v : NL Int))) rfl (mine_own rfl))
  · refine .skip ?_
    refine .nsq ?_
    refine .seq ?_
    refine run_reg ?_
    refine e_clr ?_
    refine e_end ?_
    refine g_litLl [] [] trivial rfl rfl (gone_clear (s := s) (pk := [33, 37, 39, 40, 44]) (t := 33) rfl) ?_
    refine g_v (encO (.at 0 []) (l_1.v : NL Int)) (ev_mov (keep_clear (s := s) (pk := [33, 37, 39, 40, 44]) h0 rfl (map_encO (r := 0) (p := []) rfl rfl)) ok_encO) ?_
    refine g_v1 (t := 5) (u := (.int .i64 k_6)) (.int .i64 k_6) (keep_clear (s := s) (pk := [33, 37, 39, 40, 44]) h5 rfl rfl) rfl rfl ?_
    obtain ⟨li_14, E_li_14, h⟩ := bind_some h
    obtain ⟨sub_15, E_sub_15, h⟩ := bind_some h
    refine g_v (.sl (.at 0 []) (Enc.shp Int) (Int.toNat 0) ((sub_15 : List Int).map Enc.enc)) (ev_sliceO (xs := li_14) (ofNL_fact E_li_14 rfl) (optI_none) (optI_some rfl) E_sub_15 rfl) ?_
    obtain ⟨ap_16, E_ap_16, h⟩ := bind_some h
    refine g_appS (p := []) (xs := []) (ys := (sub_15 : List Int)) (t2 := (.at 0 [])) (lo2 := (Int.toNat 0)) rfl rfl rfl (gone_clear (s := s) (pk := [33, 37, 39, 40, 44]) (t := 37) rfl) rfl E_ap_16 ?_
    refine g_v1 (t := 1) (u := (.int .i64 n_2)) (.int .i64 n_2) (keep_clear (s := s) (pk := [33, 37, 39, 40, 44]) h1 rfl rfl) rfl rfl ?_
    refine g_litL [(38, (.int .i64 n_2))] [Enc.enc (n_2 : Int)] rfl rfl rfl (gone_clear (s := s) (pk := [33, 37, 39, 40, 44]) (t := 39) rfl) ?_
    obtain ⟨ap_17, E_ap_17, h⟩ := bind_some h
    refine g_appS (p := []) (xs := ap_16) (ys := ([n_2] : List Int)) (t2 := (.at 39 [])) (lo2 := 0) rfl rfl rfl (gone_clear (s := s) (pk := [33, 37, 39, 40, 44]) (t := 40) rfl) rfl E_ap_17 ?_
    refine g_v1 (t := 0) (u := (encO (.at 0 []) (.of (li_14 : List Int)))) (encO (.at 0 []) (.of (li_14 : List Int))) (ofNL_fact E_li_14 (keep_clear (s := s) (pk := [33, 37, 39, 40, 44]) h0 rfl (map_encO (r := 0) (p := []) rfl rfl))) rfl rfl ?_
    refine g_v1 (t := 5) (u := (.int .i64 k_6)) (.int .i64 k_6) (keep_clear (s := s) (pk := [33, 37, 39, 40, 44]) h5 rfl rfl) rfl rfl ?_
    obtain ⟨sub_18, E_sub_18, h⟩ := bind_some h
    refine g_v (.sl (.at 0 []) (Enc.shp Int) (Int.toNat k_6) ((sub_18 : List Int).map Enc.enc)) (ev_sliceO (xs := li_14) rfl (optI_some rfl) (optI_none) E_sub_18 rfl) ?_
    obtain ⟨ap_19, E_ap_19, h⟩ := bind_some h
    refine g_appS (p := []) (xs := ap_17) (ys := (sub_18 : List Int)) (t2 := (.at 0 [])) (lo2 := (Int.toNat k_6)) rfl rfl rfl (gone_clear (s := s) (pk := [33, 37, 39, 40, 44]) (t := 44) rfl) rfl E_ap_19 ?_
    refine g_v1 (t := 44) (u := (encO (.at 44 []) (.of (ap_19 : List Int)))) (encO (.at 44 []) (.of (ap_19 : List Int))) rfl rfl rfl ?_
    refine g_end ?_
    refine e_home (r := 44) (x := 4) (v := (encO (.at 44 []) (.of (ap_19 : List Int)))) (by exact rfl) rfl (fun s_3 hg_3 => ?_)
    refine e_end ?_
    refine renew [(4, (encO (.at 4 []) (.of (ap_19 : List Int))))] (hg_3 4 (encO (.at 44 []) (.of (ap_19 : List Int))) (encO (.at 4 []) (.of (ap_19 : List Int))) rfl (map_encO (r := 44) (p := []) rfl rfl)) ?_
    rintro s h4
    refine .nsq ?_
    refine .ret ?_
    have hr := Option.some.inj h
    subst hr
    exact rrA (res_tmp h4) (fin_retO (finO_own (o := ((.of ap_19) : NL Int))) rfl (mine_own rfl))
def s_l1Put_o_j2 (F : Nat) (l_1 : (On Int)) (n_2 : Int) (k_6 : Int) (c1 : Int → Option (NL Int)) (t17_11 : Bool) : Option (NL Int) :=
  bif t17_11 then
    c1 (w64 (k_6 + 1))
  else
    bif decide (k_6 < (l_1.v.list.length : Int)) then
      (idx l_1.v.list k_6).bind fun e_20 =>
      s_l1Put_o_j1 F l_1 n_2 k_6 (e_20 == n_2)
    else
      s_l1Put_o_j1 F l_1 n_2 k_6 false
theorem t_f77o_j2 (H : H77o D σ F) (l_1 : (On Int)) (n_2 : Int) (k_6 : Int) (c1 : Int → Option (NL Int)) (Hc1 : ∀ (k_6 : Int) (s : Nat → V), Facts [(0, (encO (.at 0 []) (l_1.v : NL Int))), (1, (.int .i64 n_2)), (4, (.sl .nl (Enc.shp Int) 0 [])), (5, (.int .i64 k_6))] s → c1 k_6 = some r → Run D σ (R77o r) (.run A77o_3 [.lp A77o_3, .bk 0, .sq A77o_6]) s) (t17_11 : Bool) (s : Nat → V) (hs : Facts [(0, (encO (.at 0 []) (l_1.v : NL Int))), (1, (.int .i64 n_2)), (4, (.sl .nl (Enc.shp Int) 0 [])), (5, (.int .i64 k_6)), (17, (.bool t17_11))] s) (h : s_l1Put_o_j2 F l_1 n_2 k_6 c1 t17_11 = some r) : Run D σ (R77o r) (.nrm [.sq A77o_4, .sq A77o_5, .lp A77o_3, .bk 0, .sq A77o_6]) s := by
  unfold s_l1Put_o_j2 at h
  obtain ⟨h0, h1, h4, h5, h17⟩ := hs
  refine .nsq ?_
  refine run_cond (t := t17_11) h17 h (fun h => ?_) (fun h => ?_)
  · refine .skip ?_
    refine .nsq ?_
    refine .block ?_
    refine run_reg ?_
    refine e_end ?_
    refine g_v1 (t := 5) (u := (.int .i64 k_6)) (.int .i64 k_6) h5 rfl rfl ?_
    refine g_v1 (t := 18) (u := (.int .i64 k_6)) (.int .i64 (w64 (k_6 + 1))) rfl rfl rfl ?_
    refine g_v1 (t := 19) (u := (.int .i64 (w64 (k_6 + 1)))) (.int .i64 (w64 (k_6 + 1))) rfl rfl rfl ?_
    refine g_end ?_
    refine e_end ?_
    refine renew [(0, (encO (.at 0 []) (l_1.v : NL Int))), (1, (.int .i64 n_2)), (4, (.sl .nl (Enc.shp Int) 0 [])), (5, (.int .i64 (w64 (k_6 + 1))))] ⟨h0, h1, h4, rfl⟩ ?_
    rintro s ⟨h0, h1, h4, h5⟩
    refine .nbk ?_
    refine .nlp ?_
    exact Hc1 (w64 (k_6 + 1)) _ ⟨h0, h1, h4, h5⟩ h
  · refine .exit ?_
    refine .esq ?_
    refine .elp ?_
    refine .ebk ?_
    refine .nsq ?_
    refine .seq ?_
    refine .seq ?_
    refine run_reg ?_
    refine e_end ?_
    refine g_v1 (t := 5) (u := (.int .i64 k_6)) (.int .i64 k_6) h5 rfl rfl ?_
    refine g_v (encO (.at 0 []) (l_1.v : NL Int)) (ev_mov h0 ok_encO) ?_
    refine g_v (.int .i64 (l_1.v.list.length : Int)) (ev_lenO (o := l_1.v) rfl) ?_
    refine g_v2 (t1 := 20) (t2 := 22) (u1 := (.int .i64 k_6)) (u2 := (.int .i64 (l_1.v.list.length : Int))) (.bool (decide (k_6 < (l_1.v.list.length : Int)))) rfl rfl rfl rfl ?_
    refine g_v1 (t := 23) (u := (.bool (decide (k_6 < (l_1.v.list.length : Int))))) (.bool (decide (k_6 < (l_1.v.list.length : Int)))) rfl rfl rfl ?_
    refine split_on (c := decide (k_6 < (l_1.v.list.length : Int))) h (fun hg5 h => ?_) (fun hg5 h => ?_)
    · refine g_yes (Eq.trans (b := .bool (decide (k_6 < (l_1.v.list.length : Int)))) rfl (congrArg V.bool hg5)) (g_v (encO (.at 0 []) (l_1.v : NL Int)) (ev_mov h0 ok_encO) ?_)
      refine g_yes (Eq.trans (b := .bool (decide (k_6 < (l_1.v.list.length : Int)))) rfl (congrArg V.bool hg5)) (g_v1 (t := 5) (u := (.int .i64 k_6)) (.int .i64 k_6) h5 rfl rfl ?_)
      obtain ⟨e_20, E_e_20, h⟩ := bind_some h
      refine g_yes (Eq.trans (b := .bool (decide (k_6 < (l_1.v.list.length : Int)))) rfl (congrArg V.bool hg5)) (g_v (.ref (.at 0 []) k_6.toNat [] (.int .i64 e_20)) (ev_idxO (o := l_1.v) rfl rfl E_e_20 rfl) ?_)
      refine g_yes (Eq.trans (b := .bool (decide (k_6 < (l_1.v.list.length : Int)))) rfl (congrArg V.bool hg5)) (g_v1 (t := 27) (u := (.ref (.at 0 []) k_6.toNat [] (.int .i64 e_20))) (.int .i64 e_20) rfl rfl rfl ?_)
      refine g_yes (Eq.trans (b := .bool (decide (k_6 < (l_1.v.list.length : Int)))) rfl (congrArg V.bool hg5)) (g_v1 (t := 1) (u := (.int .i64 n_2)) (.int .i64 n_2) h1 rfl rfl ?_)
      refine g_yes (Eq.trans (b := .bool (decide (k_6 < (l_1.v.list.length : Int)))) rfl (congrArg V.bool hg5)) (g_v2 (t1 := 28) (t2 := 29) (u1 := (.int .i64 e_20)) (u2 := (.int .i64 n_2)) (.bool (e_20 == n_2)) rfl rfl rfl rfl ?_)
      refine g_v2 (t1 := 24) (t2 := 30) (u1 := (.bool true)) (u2 := (.bool (e_20 == n_2))) (.bool (e_20 == n_2)) (Eq.trans (b := .bool (decide (k_6 < (l_1.v.list.length : Int)))) rfl (congrArg V.bool hg5)) rfl rfl rfl ?_
      refine g_end ?_
      refine e_end ?_
      refine renew [(0, (encO (.at 0 []) (l_1.v : NL Int))), (1, (.int .i64 n_2)), (4, (.sl .nl (Enc.shp Int) 0 [])), (5, (.int .i64 k_6)), (31, (.bool (e_20 == n_2)))] ⟨h0, h1, h4, h5, rfl⟩ ?_
      rintro s ⟨h0, h1, h4, h5, h31⟩
      exact t_f77o_j1 H l_1 n_2 k_6 (e_20 == n_2) _ ⟨h0, h1, h4, h5, h31⟩ h
    · refine g_no (Eq.trans (b := .bool (decide (k_6 < (l_1.v.list.length : Int)))) rfl (congrArg V.bool hg5)) ?_
      refine g_no (Eq.trans (b := .bool (decide (k_6 < (l_1.v.list.length : Int)))) rfl (congrArg V.bool hg5)) ?_
      refine g_no (Eq.trans (b := .bool (decide (k_6 < (l_1.v.list.length : Int)))) rfl (congrArg V.bool hg5)) ?_
      refine g_no (Eq.trans (b := .bool (decide (k_6 < (l_1.v.list.length : Int)))) rfl (congrArg V.bool hg5)) ?_
      refine g_no (Eq.trans (b := .bool (decide (k_6 < (l_1.v.list.length : Int)))) rfl (congrArg V.bool hg5)) ?_
      refine g_no (Eq.trans (b := .bool (decide (k_6 < (l_1.v.list.length : Int)))) rfl (congrArg V.bool hg5)) ?_
      refine g_v2 (t1 := 24) (t2 := 30) (u1 := (.bool false)) (u2 := (.tup [])) (.bool false) (Eq.trans (b := .bool (decide (k_6 < (l_1.v.list.length : Int)))) rfl (congrArg V.bool hg5)) rfl rfl rfl ?_
      refine g_end ?_
      refine e_end ?_
      refine renew [(0, (encO (.at 0 []) (l_1.v : NL Int))), (1, (.int .i64 n_2)), (4, (.sl .nl (Enc.shp Int) 0 [])), (5, (.int .i64 k_6)), (31, (.bool false))] ⟨h0, h1, h4, h5, rfl⟩ ?_
      rintro s ⟨h0, h1, h4, h5, h31⟩
      exact t_f77o_j1 H l_1 n_2 k_6 false _ ⟨h0, h1, h4, h5, h31⟩ h
def s_l1Put_o_l1 (F : Nat) (l_1 : (On Int)) (n_2 : Int)  : Nat → Int → Option (NL Int)
  | 0, _ => none
  | k + 1, k_6 =>
    bif decide (k_6 < (l_1.v.list.length : Int)) then
      (idx l_1.v.list k_6).bind fun e_21 =>
      s_l1Put_o_j2 F l_1 n_2 k_6 (s_l1Put_o_l1 F l_1 n_2 k) (decide (e_21 < n_2))
    else
      s_l1Put_o_j2 F l_1 n_2 k_6 (s_l1Put_o_l1 F l_1 n_2 k) false
theorem t_f77o_l1 (H : H77o D σ F) (l_1 : (On Int)) (n_2 : Int)  : ∀ (k : Nat) (k_6 : Int) (s : Nat → V), Facts [(0, (encO (.at 0 []) (l_1.v : NL Int))), (1, (.int .i64 n_2)), (4, (.sl .nl (Enc.shp Int) 0 [])), (5, (.int .i64 k_6))] s → s_l1Put_o_l1 F l_1 n_2 k k_6 = some r → Run D σ (R77o r) (.run A77o_3 [.lp A77o_3, .bk 0, .sq A77o_6]) s := by
  intro k
  induction k with
  | zero => intro k_6 s _ h; exact nomatch (h : (none : Option _) = some r)
  | succ k ih =>
    intro k_6 s hs h
    rw [s_l1Put_o_l1] at h
    obtain ⟨h0, h1, h4, h5⟩ := hs
    refine .seq ?_
    refine .seq ?_
    refine run_reg ?_
    refine e_end ?_
    refine g_v1 (t := 5) (u := (.int .i64 k_6)) (.int .i64 k_6) h5 rfl rfl ?_
    refine g_v (encO (.at 0 []) (l_1.v : NL Int)) (ev_mov h0 ok_encO) ?_
    refine g_v (.int .i64 (l_1.v.list.length : Int)) (ev_lenO (o := l_1.v) rfl) ?_
    refine g_v2 (t1 := 6) (t2 := 8) (u1 := (.int .i64 k_6)) (u2 := (.int .i64 (l_1.v.list.length : Int))) (.bool (decide (k_6 < (l_1.v.list.length : Int)))) rfl rfl rfl rfl ?_
    refine g_v1 (t := 9) (u := (.bool (decide (k_6 < (l_1.v.list.length : Int))))) (.bool (decide (k_6 < (l_1.v.list.length : Int)))) rfl rfl rfl ?_
    refine split_on (c := decide (k_6 < (l_1.v.list.length : Int))) h (fun hg5 h => ?_) (fun hg5 h => ?_)
    · refine g_yes (Eq.trans (b := .bool (decide (k_6 < (l_1.v.list.length : Int)))) rfl (congrArg V.bool hg5)) (g_v (encO (.at 0 []) (l_1.v : NL Int)) (ev_mov h0 ok_encO) ?_)
      refine g_yes (Eq.trans (b := .bool (decide (k_6 < (l_1.v.list.length : Int)))) rfl (congrArg V.bool hg5)) (g_v1 (t := 5) (u := (.int .i64 k_6)) (.int .i64 k_6) h5 rfl rfl ?_)
      obtain ⟨e_21, E_e_21, h⟩ := bind_some h
      refine g_yes (Eq.trans (b := .bool (decide (k_6 < (l_1.v.list.length : Int)))) rfl (congrArg V.bool hg5)) (g_v (.ref (.at 0 []) k_6.toNat [] (.int .i64 e_21)) (ev_idxO (o := l_1.v) rfl rfl E_e_21 rfl) ?_)
      refine g_yes (Eq.trans (b := .bool (decide (k_6 < (l_1.v.list.length : Int)))) rfl (congrArg V.bool hg5)) (g_v1 (t := 13) (u := (.ref (.at 0 []) k_6.toNat [] (.int .i64 e_21))) (.int .i64 e_21) rfl rfl rfl ?_)
      refine g_yes (Eq.trans (b := .bool (decide (k_6 < (l_1.v.list.length : Int)))) rfl (congrArg V.bool hg5)) (g_v1 (t := 1) (u := (.int .i64 n_2)) (.int .i64 n_2) h1 rfl rfl ?_)
      refine g_yes (Eq.trans (b := .bool (decide (k_6 < (l_1.v.list.length : Int)))) rfl (congrArg V.bool hg5)) (g_v2 (t1 := 14) (t2 := 15) (u1 := (.int .i64 e_21)) (u2 := (.int .i64 n_2)) (.bool (decide (e_21 < n_2))) rfl rfl rfl rfl ?_)
      refine g_v2 (t1 := 10) (t2 := 16) (u1 := (.bool true)) (u2 := (.bool (decide (e_21 < n_2)))) (.bool (decide (e_21 < n_2))) (Eq.trans (b := .bool (decide (k_6 < (l_1.v.list.length : Int)))) rfl (congrArg V.bool hg5)) rfl rfl rfl ?_
      refine g_end ?_
      refine e_end ?_
      refine renew [(0, (encO (.at 0 []) (l_1.v : NL Int))), (1, (.int .i64 n_2)), (4, (.sl .nl (Enc.shp Int) 0 [])), (5, (.int .i64 k_6)), (17, (.bool (decide (e_21 < n_2))))] ⟨h0, h1, h4, h5, rfl⟩ ?_
      rintro s ⟨h0, h1, h4, h5, h17⟩
      exact t_f77o_j2 H l_1 n_2 k_6 (s_l1Put_o_l1 F l_1 n_2 k) ih (decide (e_21 < n_2)) _ ⟨h0, h1, h4, h5, h17⟩ h
    · refine g_no (Eq.trans (b := .bool (decide (k_6 < (l_1.v.list.length : Int)))) rfl (congrArg V.bool hg5)) ?_
      refine g_no (Eq.trans (b := .bool (decide (k_6 < (l_1.v.list.length : Int)))) rfl (congrArg V.bool hg5)) ?_
      refine g_no (Eq.trans (b := .bool (decide (k_6 < (l_1.v.list.length : Int)))) rfl (congrArg V.bool hg5)) ?_
      refine g_no (Eq.trans (b := .bool (decide (k_6 < (l_1.v.list.length : Int)))) rfl (congrArg V.bool hg5)) ?_
      refine g_no (Eq.trans (b := .bool (decide (k_6 < (l_1.v.list.length : Int)))) rfl (congrArg V.bool hg5)) ?_
      refine g_no (Eq.trans (b := .bool (decide (k_6 < (l_1.v.list.length : Int)))) rfl (congrArg V.bool hg5)) ?_
      refine g_v2 (t1 := 10) (t2 := 16) (u1 := (.bool false)) (u2 := (.tup [])) (.bool false) (Eq.trans (b := .bool (decide (k_6 < (l_1.v.list.length : Int)))) rfl (congrArg V.bool hg5)) rfl rfl rfl ?_
      refine g_end ?_
      refine e_end ?_
      refine renew [(0, (encO (.at 0 []) (l_1.v : NL Int))), (1, (.int .i64 n_2)), (4, (.sl .nl (Enc.shp Int) 0 [])), (5, (.int .i64 k_6)), (17, (.bool false))] ⟨h0, h1, h4, h5, rfl⟩ ?_
      rintro s ⟨h0, h1, h4, h5, h17⟩
      exact t_f77o_j2 H l_1 n_2 k_6 (s_l1Put_o_l1 F l_1 n_2 k) ih false _ ⟨h0, h1, h4, h5, h17⟩ h
def s_l1Put_o (F : Nat) (l_1 : (On Int)) (n_2 : Int) : Option (NL Int) :=
  s_l1Put_o_l1 F l_1 n_2 F 0
theorem t77o (H : H77o D σ F) (l_1 : (On Int)) (n_2 : Int) (s : Nat → V) (hs : Facts [(0, (encO (.at pinR []) (l_1.v : NL Int))), (1, (.int .i64 n_2))] s) (h : s_l1Put_o F l_1 n_2 = some r) : Run D σ (R77o r) (.run A77o []) s := by
  unfold s_l1Put_o at h
  obtain ⟨h0, h1⟩ := hs
  refine .seq ?_
  refine run_reg ?_
  refine e_end ?_
  refine g_v0 (.sl .nl (Enc.shp Int) 0 []) rfl rfl ?_
  refine g_end ?_
  refine e_home (r := pinR) (x := 0) (v := (encO (.at pinR []) (l_1.v : NL Int))) (by exact h0) ok_encO (fun s_1 hg_1 => ?_)
  refine e_end ?_
  refine renew [(0, (encO (.at 0 []) (l_1.v : NL Int))), (1, (.int .i64 n_2)), (4, (.sl .nl (Enc.shp Int) 0 []))] ⟨(hg_1 0 (encO (.at pinR []) (l_1.v : NL Int)) (encO (.at 0 []) (l_1.v : NL Int)) h0 (map_encO (r := pinR) (p := []) rfl rfl)), (hg_1 1 (.int .i64 n_2) (.int .i64 n_2) h1 rfl), (hg_1 4 (.sl .nl (Enc.shp Int) 0 []) (.sl .nl (Enc.shp Int) 0 []) rfl rfl)⟩ ?_
  rintro s ⟨h0, h1, h4⟩
  refine .nsq ?_
  refine .seq ?_
  refine run_reg ?_
  refine e_end ?_
  refine g_v0 (.int .i64 0) rfl rfl ?_
  refine g_end ?_
  refine e_end ?_
  refine renew [(0, (encO (.at 0 []) (l_1.v : NL Int))), (1, (.int .i64 n_2)), (4, (.sl .nl (Enc.shp Int) 0 [])), (5, (.int .i64 0))] ⟨h0, h1, h4, rfl⟩ ?_
  rintro s ⟨h0, h1, h4, h5⟩
  refine .nsq ?_
  refine .seq ?_
  refine .block ?_
  refine .loop ?_
  exact t_f77o_l1 H l_1 n_2 F 0 _ ⟨h0, h1, h4, h5⟩ h
end
def e77o (F : Nat) : Ent := ⟨1000000077, da (fun (x : ((On Int) × Int × Unit)) => s_l1Put_o F x.1 x.2.1) (fun (r : (NL Int)) => (encO .sh (r : NL Int))), giveM, false, selF []⟩
theorem p77o {F : Nat} {x0 : (On Int)} {x1 : Int} {r : (NL Int)} (h : s_l1Put_o F x0 x1 = some r) : (e77o F).den [Arg.arg x0, Enc.enc x1] = some (encO .sh (r : NL Int)) := da_put (f := fun (x : ((On Int) × Int × Unit)) => s_l1Put_o F x.1 x.2.1) (t := fun (r : (NL Int)) => (encO .sh (r : NL Int))) (x0, x1, ()) h
theorem o77o {D : Den} {σ : Sig} {F : Nat} (hF : Fits2 Try.prog D σ) (H : H77o D σ F) : (e77o F).Ok Try.prog := by
  refine ok_of (f := 77) (show unk 1000000077 = 77 from rfl) (fun args r h => ?_) ⟨Try.f77, Try.func77, rfl, rfl⟩
  obtain ⟨⟨x0, x1, _⟩, y, rfl, hy, rfl⟩ := da_open h
  exact contractG_run hF (by kernel_rfl) Try.func77 rfl c77o (all_okc ok_encP (all_okc rfl rfl)) (show 2 ≤ Try.f77.ntmps by decide) (by decide) (t77o H x0 x1 _ ⟨rfl, rfl⟩ hy)
/- loop.example/g01109/spec.l5Later -/
def A121o_2 : AC := (.cond (.t 18) .skip (.exit 0))
def A121o_7 : AC := (.cond (.t 30) .skip (.exit 2))
def A121o_9 : AC := (.cond (.t 38) (.exit 3) .skip)
def A121o_11 : AC := (.cond (.t 44) (.reg [.clr [50, 51]] [(.mk (some 45) none false (.v (.mov (.t 8)))), (.mk (some 46) none false (.v (.mov (.t 10)))), (.mk (some 47) none false (.v (.mov (.t 11)))), (.mk (some 48) none false (.v (.idx (.t 46) (.t 47) 1))), (.mk (some 49) none false (.v (.load .s (.t 48)))), (.mk (some 50) none false (.lit (.int .i64 (.ofNat 0)) 1 [(0, 0, (.t 49))])), (.mk (some 51) none false (.app .s (.t 45) (.t 50))), (.mk (some 8) none false (.v (.mov (.t 51))))] [.home 51 8]) (.reg [.clr [57]] [(.mk (some 52) none false (.v (.mov (.t 7)))), (.mk (some 53) none false (.v (.mov (.t 10)))), (.mk (some 54) none false (.v (.mov (.t 11)))), (.mk (some 55) none false (.v (.idx (.t 53) (.t 54) 1))), (.mk (some 56) none false (.v (.load .s (.t 55)))), (.mk (some 57) none false (.callG (.k (.fn 77 [] [])) 0 [(.t 52), (.t 56)])), (.mk (some 7) none false (.v (.mov (.t 57))))] [.home 57 7]))
def A121o_10 : AC := (.seq (.reg [] [(.mk (some 39) none false (.v (.mov (.t 1)))), (.mk (some 40) none false (.v (.mov (.t 10)))), (.mk (some 41) none false (.v (.mov (.t 11)))), (.mk (some 42) none false (.v (.idx (.t 40) (.t 41) 1))), (.mk (some 43) none false (.v (.load .s (.t 42)))), (.mk (some 44) none false (.call (.k (.fn 68 [] [])) [(.t 39), (.t 43)]))] []) A121o_11)
def A121o_12 : AC := (.reg [] [(.mk (some 31) none false (.v (.mov (.t 11)))), (.mk (some 32) none false (.v (.bin .add (.t 31) (.k (.int .i64 (.ofNat 1)))))), (.mk (some 11) none false (.v (.mov (.t 32))))] [])
def A121o_8 : AC := (.seq (.block 3 (.seq (.seq (.reg [] [(.mk (some 33) none false (.v (.mov (.t 8)))), (.mk (some 34) none false (.v (.mov (.t 10)))), (.mk (some 35) none false (.v (.mov (.t 11)))), (.mk (some 36) none false (.v (.idx (.t 34) (.t 35) 1))), (.mk (some 37) none false (.v (.load .s (.t 36)))), (.mk (some 38) none false (.call (.k (.fn 68 [] [])) [(.t 33), (.t 37)]))] []) A121o_9) A121o_10)) A121o_12)
def A121o_6 : AC := (.seq (.seq (.reg [] [(.mk (some 27) none false (.v (.mov (.t 11)))), (.mk (some 28) none false (.v (.mov (.t 10)))), (.mk (some 29) none false (.v (.len (.t 28)))), (.mk (some 30) none false (.v (.bin .lss (.t 27) (.t 29))))] []) A121o_7) A121o_8)
def A121o_5 : AC := (.block 2 (.loop A121o_6))
def A121o_4 : AC := (.seq (.reg [] [(.mk (some 11) none false (.v (.mov (.k (.int .i64 (.ofNat 0))))))] []) A121o_5)
def A121o_13 : AC := (.reg [] [(.mk (some 19) none false (.v (.mov (.t 9)))), (.mk (some 20) none false (.v (.bin .add (.t 19) (.k (.int .i64 (.ofNat 1)))))), (.mk (some 9) none false (.v (.mov (.t 20))))] [])
def A121o_3 : AC := (.seq (.block 1 (.seq (.reg [] [(.mk (some 21) none false (.v (.load (.ag [.s, .p]) (.t 3)))), (.mk (some 22) none false (.v (.mov (.t 8)))), (.mk (some 23) none false (.v (.mov (.t 9)))), (.mk (some 24) none false (.v (.idx (.t 22) (.t 23) 1))), (.mk (some 25) none false (.v (.load .s (.t 24)))), (.mk (some 26) none false (.call (.k (.fn 107 [] [])) [(.t 21), (.t 25)])), (.mk (some 10) none false (.v (.mov (.t 26))))] []) A121o_4)) A121o_13)
def A121o_1 : AC := (.seq (.seq (.reg [] [(.mk (some 15) none false (.v (.mov (.t 9)))), (.mk (some 16) none false (.v (.mov (.t 8)))), (.mk (some 17) none false (.v (.len (.t 16)))), (.mk (some 18) none false (.v (.bin .lss (.t 15) (.t 17))))] []) A121o_2) A121o_3)
def A121o_14 : AC := (.seq (.reg [] [(.mk (some 58) none false (.v (.mov (.t 7)))), (.mk (some 6) none false (.v (.mov (.t 58))))] [.home 7 6]) .ret)
def A121o_17 : AC := (.block 0 (.loop A121o_1))
def A121o_16 : AC := (.seq (.seq (.reg [] [(.mk (some 9) none false (.v (.mov (.k (.int .i64 (.ofNat 0))))))] []) A121o_17) A121o_14)
def A121o_15 : AC := (.seq (.reg [.clr [12, 14]] [(.mk (some 12) none false (.lit (.int .i64 (.ofNat 0)) 0 [])), (.mk (some 13) none false (.v (.mov (.t 2)))), (.mk (some 14) none false (.lit (.int .i64 (.ofNat 0)) 1 [(0, 0, (.t 13))])), (.mk (some 7) none false (.v (.mov (.t 12)))), (.mk (some 8) none false (.v (.mov (.t 14))))] [.home 12 7, .home 14 8]) A121o_16)
def A121o : AC := (.seq (.reg [.clr [3]] [(.mk (some 3) none false (.box (.t 0))), (.mk (some 6) none false (.v (.mov (.k (.sl .nl .s 0 [])))))] []) A121o_15)
def an121o : List An := [{ id := 0, pre := [.clr [3]], ep := [], lin := [], sp := [] }, { id := 1, pre := [.clr [12, 14]], ep := [.home 12 7, .home 14 8], lin := [], sp := [] }, { id := 11, pre := [.clr [50, 51]], ep := [.home 51 8], lin := [], sp := [] }, { id := 12, pre := [.clr [57]], ep := [.home 57 7], lin := [], sp := [2005] }, { id := 13, pre := [], ep := [.home 7 6], lin := [], sp := [] }]
theorem c121o : cC Try.prog Try.f121.ntmps an121o (Try.f121.body.getD .skip) = some A121o := by kernel_rfl
structure H121o (D : Den) (σ : Sig) (F : Nat) : Prop where
  c107 : ∀ (x0 : (Int × (List (Int × Int)))) (x1 : Int) r, s_l2Neighbors F x0 x1 = some r → D 107 [Enc.enc x0, Enc.enc x1] = some (Enc.enc (r : (List Int)))
  g107 : σ 107 = some (0, false)
  c68 : ∀ (x0 : (List Int)) (x1 : Int) r, s_l1Has F x0 x1 = some r → D 68 [Enc.enc x0, Enc.enc x1] = some (Enc.enc (r : Bool))
  g68 : σ 68 = some (0, false)
  c77o : ∀ (x0 : (On Int)) (x1 : Int) r, s_l1Put_o F x0 x1 = some r → D 1000000077 [Arg.arg x0, Enc.enc x1] = some (encO .sh (r : NL Int))
  g77o : σ 1000000077 = some (giveM, false)
abbrev R121o (r : (NL Int)) : (Nat → V) → Prop := RR Try.prog [.tmp 6] 1 false (encO .sh (r : NL Int))
section
variable {D : Den} {σ : Sig} {F : Nat} {r : (NL Int)}
def s_l5Later_o_j1 (F : Nat) (gone_2 : (List Int)) (g_1 : (Int × (List (Int × Int)))) (k_53 : Int) (r_102 : (List Int)) (i_119 : Int) (c1 : (NL Int) → (List Int) → Int → Option (NL Int)) (c4 : (NL Int) → (List Int) → Int → Option (NL Int)) (out_142 : (NL Int)) (seen_143 : (List Int)) : Option (NL Int) :=
  c4 out_142 seen_143 (w64 (i_119 + 1))
theorem t_f121o_j1 (H : H121o D σ F) (gone_2 : (List Int)) (g_1 : (Int × (List (Int × Int)))) (k_53 : Int) (r_102 : (List Int)) (i_119 : Int) (c1 : (NL Int) → (List Int) → Int → Option (NL Int)) (Hc1 : ∀ (out_51 : (NL Int)) (seen_52 : (List Int)) (k_53 : Int) (s : Nat → V), Facts [(1, (Enc.enc (gone_2 : List Int))), (3, (.ref (.bx 3) 0 [] (.agg [(.int .i64 g_1.1), (Enc.enc (g_1.2 : List (Int × Int)))]))), (6, (.sl .nl (Enc.shp Int) 0 [])), (7, (encO (.at 7 []) (out_51 : NL Int))), (8, (encO (.at 8 []) (.of (seen_52 : List Int)))), (9, (.int .i64 k_53))] s → c1 out_51 seen_52 k_53 = some r → Run D σ (R121o r) (.run A121o_1 [.lp A121o_1, .bk 0, .sq A121o_14]) s) (c4 : (NL Int) → (List Int) → Int → Option (NL Int)) (Hc4 : ∀ (out_117 : (NL Int)) (seen_118 : (List Int)) (i_119 : Int) (s : Nat → V), Facts [(1, (Enc.enc (gone_2 : List Int))), (3, (.ref (.bx 3) 0 [] (.agg [(.int .i64 g_1.1), (Enc.enc (g_1.2 : List (Int × Int)))]))), (6, (.sl .nl (Enc.shp Int) 0 [])), (7, (encO (.at 7 []) (out_117 : NL Int))), (8, (encO (.at 8 []) (.of (seen_118 : List Int)))), (9, (.int .i64 k_53)), (10, (Enc.enc (r_102 : List Int))), (11, (.int .i64 i_119))] s → c4 out_117 seen_118 i_119 = some r → Run D σ (R121o r) (.run A121o_6 [.lp A121o_6, .bk 2, .bk 1, .sq A121o_13, .lp A121o_1, .bk 0, .sq A121o_14]) s) (out_142 : (NL Int)) (seen_143 : (List Int)) (s : Nat → V) (hs : Facts [(1, (Enc.enc (gone_2 : List Int))), (3, (.ref (.bx 3) 0 [] (.agg [(.int .i64 g_1.1), (Enc.enc (g_1.2 : List (Int × Int)))]))), (6, (.sl .nl (Enc.shp Int) 0 [])), (7, (encO (.at 7 []) (out_142 : NL Int))), (8, (encO (.at 8 []) (.of (seen_143 : List Int)))), (9, (.int .i64 k_53)), (10, (Enc.enc (r_102 : List Int))), (11, (.int .i64 i_119))] s) (h : s_l5Later_o_j1 F gone_2 g_1 k_53 r_102 i_119 c1 c4 out_142 seen_143 = some r) : Run D σ (R121o r) (.nrm [.bk 3, .sq A121o_12, .lp A121o_6, .bk 2, .bk 1, .sq A121o_13, .lp A121o_1, .bk 0, .sq A121o_14]) s := by
  unfold s_l5Later_o_j1 at h
  obtain ⟨h1, h3, h6, h7, h8, h9, h10, h11⟩ := hs
  refine .nbk ?_
  refine .nsq ?_
  refine run_reg ?_
  refine e_end ?_
  refine g_v1 (t := 11) (u := (.int .i64 i_119)) (.int .i64 i_119) h11 rfl rfl ?_
  refine g_v1 (t := 31) (u := (.int .i64 i_119)) (.int .i64 (w64 (i_119 + 1))) rfl rfl rfl ?_
  refine g_v1 (t := 32) (u := (.int .i64 (w64 (i_119 + 1)))) (.int .i64 (w64 (i_119 + 1))) rfl rfl rfl ?_
  refine g_end ?_
  refine e_end ?_
  refine renew [(1, (Enc.enc (gone_2 : List Int))), (3, (.ref (.bx 3) 0 [] (.agg [(.int .i64 g_1.1), (Enc.enc (g_1.2 : List (Int × Int)))]))), (6, (.sl .nl (Enc.shp Int) 0 [])), (7, (encO (.at 7 []) (out_142 : NL Int))), (8, (encO (.at 8 []) (.of (seen_143 : List Int)))), (9, (.int .i64 k_53)), (10, (Enc.enc (r_102 : List Int))), (11, (.int .i64 (w64 (i_119 + 1))))] ⟨h1, h3, h6, h7, h8, h9, h10, rfl⟩ ?_
  rintro s ⟨h1, h3, h6, h7, h8, h9, h10, h11⟩
  refine .nlp ?_
  exact Hc4 out_142 seen_143 (w64 (i_119 + 1)) _ ⟨h1, h3, h6, h7, h8, h9, h10, h11⟩ h
def s_l5Later_o_l1 (F : Nat) (gone_2 : (List Int)) (g_1 : (Int × (List (Int × Int)))) (k_53 : Int) (r_102 : (List Int)) (c1 : (NL Int) → (List Int) → Int → Option (NL Int)) : Nat → (NL Int) → (List Int) → Int → Option (NL Int)
  | 0, _, _, _ => none
  | k + 1, out_117, seen_118, i_119 =>
    bif decide (i_119 < (r_102.length : Int)) then
      (idx r_102 i_119).bind fun e_134 =>
      (s_l1Has F seen_118 e_134).bind fun r_135 =>
      bif r_135 then
        (s_l5Later_o_l1 F gone_2 g_1 k_53 r_102 c1 k) out_117 seen_118 (w64 (i_119 + 1))
      else
        (idx r_102 i_119).bind fun e_136 =>
        (s_l1Has F gone_2 e_136).bind fun r_137 =>
        bif r_137 then
          (idx r_102 i_119).bind fun e_144 =>
          (appL seen_118 [e_144]).bind fun ap_145 =>
          s_l5Later_o_j1 F gone_2 g_1 k_53 r_102 i_119 c1 (s_l5Later_o_l1 F gone_2 g_1 k_53 r_102 c1 k) out_117 ap_145
        else
          (idx r_102 i_119).bind fun e_146 =>
          (s_l1Put_o F (On.mk out_117 : On Int) e_146).bind fun r_147 =>
          s_l5Later_o_j1 F gone_2 g_1 k_53 r_102 i_119 c1 (s_l5Later_o_l1 F gone_2 g_1 k_53 r_102 c1 k) r_147 seen_118
    else
      c1 out_117 seen_118 (w64 (k_53 + 1))
theorem t_f121o_l1 (H : H121o D σ F) (gone_2 : (List Int)) (g_1 : (Int × (List (Int × Int)))) (k_53 : Int) (r_102 : (List Int)) (c1 : (NL Int) → (List Int) → Int → Option (NL Int)) (Hc1 : ∀ (out_51 : (NL Int)) (seen_52 : (List Int)) (k_53 : Int) (s : Nat → V), Facts [(1, (Enc.enc (gone_2 : List Int))), (3, (.ref (.bx 3) 0 [] (.agg [(.int .i64 g_1.1), (Enc.enc (g_1.2 : List (Int × Int)))]))), (6, (.sl .nl (Enc.shp Int) 0 [])), (7, (encO (.at 7 []) (out_51 : NL Int))), (8, (encO (.at 8 []) (.of (seen_52 : List Int)))), (9, (.int .i64 k_53))] s → c1 out_51 seen_52 k_53 = some r → Run D σ (R121o r) (.run A121o_1 [.lp A121o_1, .bk 0, .sq A121o_14]) s) : ∀ (k : Nat) (out_117 : (NL Int)) (seen_118 : (List Int)) (i_119 : Int) (s : Nat → V), Facts [(1, (Enc.enc (gone_2 : List Int))), (3, (.ref (.bx 3) 0 [] (.agg [(.int .i64 g_1.1), (Enc.enc (g_1.2 : List (Int × Int)))]))), (6, (.sl .nl (Enc.shp Int) 0 [])), (7, (encO (.at 7 []) (out_117 : NL Int))), (8, (encO (.at 8 []) (.of (seen_118 : List Int)))), (9, (.int .i64 k_53)), (10, (Enc.enc (r_102 : List Int))), (11, (.int .i64 i_119))] s → s_l5Later_o_l1 F gone_2 g_1 k_53 r_102 c1 k out_117 seen_118 i_119 = some r → Run D σ (R121o r) (.run A121o_6 [.lp A121o_6, .bk 2, .bk 1, .sq A121o_13, .lp A121o_1, .bk 0, .sq A121o_14]) s := by
  intro k
  induction k with
  | zero => intro out_117 seen_118 i_119 s _ h; exact nomatch (h : (none : Option _) = some r)
  | succ k ih =>
    intro out_117 seen_118 i_119 s hs h
    rw [s_l5Later_o_l1] at h
    obtain ⟨h1, h3, h6, h7, h8, h9, h10, h11⟩ := hs
    refine .seq ?_
    refine .seq ?_
    refine run_reg ?_
    refine e_end ?_
    refine g_v1 (t := 11) (u := (.int .i64 i_119)) (.int .i64 i_119) h11 rfl rfl ?_
    refine g_v1 (t := 10) (u := (Enc.enc (r_102 : List Int))) (Enc.enc (r_102 : List Int)) h10 rfl rfl ?_
    refine g_v (.int .i64 (r_102.length : Int)) (ev_len (xs := r_102) rfl) ?_
    refine g_v2 (t1 := 27) (t2 := 29) (u1 := (.int .i64 i_119)) (u2 := (.int .i64 (r_102.length : Int))) (.bool (decide (i_119 < (r_102.length : Int)))) rfl rfl rfl rfl ?_
    refine g_end ?_
    refine e_end ?_
    refine renew [(1, (Enc.enc (gone_2 : List Int))), (3, (.ref (.bx 3) 0 [] (.agg [(.int .i64 g_1.1), (Enc.enc (g_1.2 : List (Int × Int)))]))), (6, (.sl .nl (Enc.shp Int) 0 [])), (7, (encO (.at 7 []) (out_117 : NL Int))), (8, (encO (.at 8 []) (.of (seen_118 : List Int)))), (9, (.int .i64 k_53)), (10, (Enc.enc (r_102 : List Int))), (11, (.int .i64 i_119)), (30, (.bool (decide (i_119 < (r_102.length : Int)))))] ⟨h1, h3, h6, h7, h8, h9, h10, h11, rfl⟩ ?_
    rintro s ⟨h1, h3, h6, h7, h8, h9, h10, h11, h30⟩
    refine .nsq ?_
    refine run_cond (t := decide (i_119 < (r_102.length : Int))) h30 h (fun h => ?_) (fun h => ?_)
    · refine .skip ?_
      refine .nsq ?_
      refine .seq ?_
      refine .block ?_
      refine .seq ?_
      refine .seq ?_
      refine run_reg ?_
      refine e_end ?_
      refine g_v1 (t := 8) (u := (encO (.at 8 []) (.of (seen_118 : List Int)))) (encO (.at 8 []) (.of (seen_118 : List Int))) h8 rfl rfl ?_
      refine g_v1 (t := 10) (u := (Enc.enc (r_102 : List Int))) (Enc.enc (r_102 : List Int)) h10 rfl rfl ?_
      refine g_v1 (t := 11) (u := (.int .i64 i_119)) (.int .i64 i_119) h11 rfl rfl ?_
      obtain ⟨e_134, E_e_134, h⟩ := bind_some h
      refine g_v (.ref .sh 0 [] (.int .i64 e_134)) (ev_idx (t := .sh) (lo := 0) (xs := r_102) rfl rfl E_e_134 rfl rfl) ?_
      refine g_v1 (t := 36) (u := (.ref .sh 0 [] (.int .i64 e_134))) (.int .i64 e_134) rfl rfl rfl ?_
      obtain ⟨r_135, E_r_135, h⟩ := bind_some h
      refine g_call (m := 0) (al := false) (r := (Enc.enc (r_135 : Bool))) [Enc.enc (seen_118 : (List Int)), Enc.enc (e_134 : Int)] (ta_cons (v := (encO (.at 8 []) (.of (seen_118 : List Int)))) rfl rfl (erase_encO (o := .of seen_118)) (ta_cons (v := (.int .i64 e_134)) rfl rfl rfl ta_nil)) (H.c68 _ _ _ E_r_135) H.g68 rfl rfl rfl rfl ?_
      refine g_end ?_
      refine e_end ?_
      refine renew [(1, (Enc.enc (gone_2 : List Int))), (3, (.ref (.bx 3) 0 [] (.agg [(.int .i64 g_1.1), (Enc.enc (g_1.2 : List (Int × Int)))]))), (6, (.sl .nl (Enc.shp Int) 0 [])), (7, (encO (.at 7 []) (out_117 : NL Int))), (8, (encO (.at 8 []) (.of (seen_118 : List Int)))), (9, (.int .i64 k_53)), (10, (Enc.enc (r_102 : List Int))), (11, (.int .i64 i_119)), (38, (.bool r_135))] ⟨h1, h3, h6, h7, h8, h9, h10, h11, rfl⟩ ?_
      rintro s ⟨h1, h3, h6, h7, h8, h9, h10, h11, h38⟩
      refine .nsq ?_
      refine run_cond (t := r_135) h38 h (fun h => ?_) (fun h => ?_)
      · refine .exit ?_
        refine .esq ?_
        refine .ebk ?_
        refine .nsq ?_
        refine run_reg ?_
        refine e_end ?_
        refine g_v1 (t := 11) (u := (.int .i64 i_119)) (.int .i64 i_119) h11 rfl rfl ?_
        refine g_v1 (t := 31) (u := (.int .i64 i_119)) (.int .i64 (w64 (i_119 + 1))) rfl rfl rfl ?_
        refine g_v1 (t := 32) (u := (.int .i64 (w64 (i_119 + 1)))) (.int .i64 (w64 (i_119 + 1))) rfl rfl rfl ?_
        refine g_end ?_
        refine e_end ?_
        refine renew [(1, (Enc.enc (gone_2 : List Int))), (3, (.ref (.bx 3) 0 [] (.agg [(.int .i64 g_1.1), (Enc.enc (g_1.2 : List (Int × Int)))]))), (6, (.sl .nl (Enc.shp Int) 0 [])), (7, (encO (.at 7 []) (out_117 : NL Int))), (8, (encO (.at 8 []) (.of (seen_118 : List Int)))), (9, (.int .i64 k_53)), (10, (Enc.enc (r_102 : List Int))), (11, (.int .i64 (w64 (i_119 + 1))))] ⟨h1, h3, h6, h7, h8, h9, h10, rfl⟩ ?_
        rintro s ⟨h1, h3, h6, h7, h8, h9, h10, h11⟩
        refine .nlp ?_
        exact ih out_117 seen_118 (w64 (i_119 + 1)) _ ⟨h1, h3, h6, h7, h8, h9, h10, h11⟩ h
      · refine .skip ?_
        refine .nsq ?_
        refine .seq ?_
        refine run_reg ?_
        refine e_end ?_
        refine g_v1 (t := 1) (u := (Enc.enc (gone_2 : List Int))) (Enc.enc (gone_2 : List Int)) h1 rfl rfl ?_
        refine g_v1 (t := 10) (u := (Enc.enc (r_102 : List Int))) (Enc.enc (r_102 : List Int)) h10 rfl rfl ?_
        refine g_v1 (t := 11) (u := (.int .i64 i_119)) (.int .i64 i_119) h11 rfl rfl ?_
        obtain ⟨e_136, E_e_136, h⟩ := bind_some h
        refine g_v (.ref .sh 0 [] (.int .i64 e_136)) (ev_idx (t := .sh) (lo := 0) (xs := r_102) rfl rfl E_e_136 rfl rfl) ?_
        refine g_v1 (t := 42) (u := (.ref .sh 0 [] (.int .i64 e_136))) (.int .i64 e_136) rfl rfl rfl ?_
        obtain ⟨r_137, E_r_137, h⟩ := bind_some h
        refine g_call (m := 0) (al := false) (r := (Enc.enc (r_137 : Bool))) [Enc.enc (gone_2 : (List Int)), Enc.enc (e_136 : Int)] (ta_cons (v := (Enc.enc (gone_2 : List Int))) rfl rfl (Enc.erase_enc (gone_2 : (List Int))) (ta_cons (v := (.int .i64 e_136)) rfl rfl rfl ta_nil)) (H.c68 _ _ _ E_r_137) H.g68 rfl rfl rfl rfl ?_
        refine g_end ?_
        refine e_end ?_
        refine renew [(1, (Enc.enc (gone_2 : List Int))), (3, (.ref (.bx 3) 0 [] (.agg [(.int .i64 g_1.1), (Enc.enc (g_1.2 : List (Int × Int)))]))), (6, (.sl .nl (Enc.shp Int) 0 [])), (7, (encO (.at 7 []) (out_117 : NL Int))), (8, (encO (.at 8 []) (.of (seen_118 : List Int)))), (9, (.int .i64 k_53)), (10, (Enc.enc (r_102 : List Int))), (11, (.int .i64 i_119)), (44, (.bool r_137))] ⟨h1, h3, h6, h7, h8, h9, h10, h11, rfl⟩ ?_
        rintro s ⟨h1, h3, h6, h7, h8, h9, h10, h11, h44⟩
        refine .nsq ?_
        refine run_cond (t := r_137) h44 h (fun h => ?_) (fun h => ?_)
        · refine run_reg ?_
          refine e_clr ?_
          refine e_end ?_
          refine g_v1 (t := 8) (u := (encO (.at 8 []) (.of (seen_118 : List Int)))) (encO (.at 8 []) (.of (seen_118 : List Int))) (keep_clear (s := s) (pk := [50, 51]) h8 rfl (map_encO (r := 8) (p := []) rfl rfl)) rfl rfl ?_
          refine g_v1 (t := 10) (u := (Enc.enc (r_102 : List Int))) (Enc.enc (r_102 : List Int)) (keep_clear (s := s) (pk := [50, 51]) h10 rfl (Enc.map_enc _ (r_102 : List Int))) rfl rfl ?_
          refine g_v1 (t := 11) (u := (.int .i64 i_119)) (.int .i64 i_119) (keep_clear (s := s) (pk := [50, 51]) h11 rfl rfl) rfl rfl ?_
          obtain ⟨e_144, E_e_144, h⟩ := bind_some h
          refine g_v (.ref .sh 0 [] (.int .i64 e_144)) (ev_idx (t := .sh) (lo := 0) (xs := r_102) rfl rfl E_e_144 rfl rfl) ?_
          refine g_v1 (t := 48) (u := (.ref .sh 0 [] (.int .i64 e_144))) (.int .i64 e_144) rfl rfl rfl ?_
          refine g_litL [(49, (.int .i64 e_144))] [Enc.enc (e_144 : Int)] rfl rfl rfl (gone_clear (s := s) (pk := [50, 51]) (t := 50) rfl) ?_
          obtain ⟨ap_145, E_ap_145, h⟩ := bind_some h
          refine g_app (q := 8) (p := []) (o := (.of (seen_118 : List Int))) (ys := ([e_144] : List Int)) (t2 := (.at 50 [])) (lo2 := 0) rfl rfl rfl (gone_clear (s := s) (pk := [50, 51]) (t := 51) rfl) (appN_L (o := (.of (seen_118 : List Int))) E_ap_145 trivial) (fun s_108 ha_108 => ?_)
          refine g_v1 (t := 51) (u := (encO (.at 51 []) (.of (ap_145 : List Int)))) (encO (.at 51 []) (.of (ap_145 : List Int))) rfl rfl rfl ?_
          refine g_end ?_
          refine e_home (r := 51) (x := 8) (v := (encO (.at 51 []) (.of (ap_145 : List Int)))) (by exact rfl) rfl (fun s_109 hg_109 => ?_)
          refine e_end ?_
          refine renew [(1, (Enc.enc (gone_2 : List Int))), (3, (.ref (.bx 3) 0 [] (.agg [(.int .i64 g_1.1), (Enc.enc (g_1.2 : List (Int × Int)))]))), (6, (.sl .nl (Enc.shp Int) 0 [])), (7, (encO (.at 7 []) (out_117 : NL Int))), (8, (encO (.at 8 []) (.of (ap_145 : List Int)))), (9, (.int .i64 k_53)), (10, (Enc.enc (r_102 : List Int))), (11, (.int .i64 i_119))] ⟨(hg_109 1 (Enc.enc (gone_2 : List Int)) (Enc.enc (gone_2 : List Int)) (show s_108 1 = (Enc.enc (gone_2 : List Int)) from keep_app ha_108 (keep_clear (s := s) (pk := [50, 51]) h1 rfl (Enc.map_enc _ (gone_2 : List Int))) (Enc.map_enc _ (gone_2 : List Int))) (Enc.map_enc _ (gone_2 : List Int))), (hg_109 3 (.ref (.bx 3) 0 [] (.agg [(.int .i64 g_1.1), (Enc.enc (g_1.2 : List (Int × Int)))])) (.ref (.bx 3) 0 [] (.agg [(.int .i64 g_1.1), (Enc.enc (g_1.2 : List (Int × Int)))])) (show s_108 3 = (.ref (.bx 3) 0 [] (.agg [(.int .i64 g_1.1), (Enc.enc (g_1.2 : List (Int × Int)))])) from keep_app ha_108 (keep_clear (s := s) (pk := [50, 51]) h3 rfl (map_bx rfl (map_agg (maps_cons rfl (maps_cons (Enc.map_enc _ (g_1.2 : List (Int × Int))) maps_nil))))) (map_bx rfl (map_agg (maps_cons rfl (maps_cons (Enc.map_enc _ (g_1.2 : List (Int × Int))) maps_nil))))) (map_bx rfl (map_agg (maps_cons rfl (maps_cons (Enc.map_enc _ (g_1.2 : List (Int × Int))) maps_nil))))), (hg_109 6 (.sl .nl (Enc.shp Int) 0 []) (.sl .nl (Enc.shp Int) 0 []) (show s_108 6 = (.sl .nl (Enc.shp Int) 0 []) from keep_app ha_108 (keep_clear (s := s) (pk := [50, 51]) h6 rfl rfl) rfl) rfl), (hg_109 7 (encO (.at 7 []) (out_117 : NL Int)) (encO (.at 7 []) (out_117 : NL Int)) (show s_108 7 = (encO (.at 7 []) (out_117 : NL Int)) from keep_app ha_108 (keep_clear (s := s) (pk := [50, 51]) h7 rfl (map_encO (r := 7) (p := []) rfl rfl)) (map_encO (r := 7) (p := []) rfl rfl)) (map_encO (r := 7) (p := []) rfl rfl)), (hg_109 8 (encO (.at 51 []) (.of (ap_145 : List Int))) (encO (.at 8 []) (.of (ap_145 : List Int))) rfl (map_encO (r := 51) (p := []) rfl rfl)), (hg_109 9 (.int .i64 k_53) (.int .i64 k_53) (show s_108 9 = (.int .i64 k_53) from keep_app ha_108 (keep_clear (s := s) (pk := [50, 51]) h9 rfl rfl) rfl) rfl), (hg_109 10 (Enc.enc (r_102 : List Int)) (Enc.enc (r_102 : List Int)) (show s_108 10 = (Enc.enc (r_102 : List Int)) from keep_app ha_108 (keep_clear (s := s) (pk := [50, 51]) h10 rfl (Enc.map_enc _ (r_102 : List Int))) (Enc.map_enc _ (r_102 : List Int))) (Enc.map_enc _ (r_102 : List Int))), (hg_109 11 (.int .i64 i_119) (.int .i64 i_119) (show s_108 11 = (.int .i64 i_119) from keep_app ha_108 (keep_clear (s := s) (pk := [50, 51]) h11 rfl rfl) rfl) rfl)⟩ ?_
          rintro s ⟨h1, h3, h6, h7, h8, h9, h10, h11⟩
          exact t_f121o_j1 H gone_2 g_1 k_53 r_102 i_119 c1 Hc1 (s_l5Later_o_l1 F gone_2 g_1 k_53 r_102 c1 k) ih out_117 ap_145 _ ⟨h1, h3, h6, h7, h8, h9, h10, h11⟩ h
        · refine run_reg ?_
          refine e_clr ?_
          refine e_end ?_
          refine g_v (encO (.at 7 []) (out_117 : NL Int)) (ev_mov (keep_clear (s := s) (pk := [57]) h7 rfl (map_encO (r := 7) (p := []) rfl rfl)) ok_encO) ?_
          refine g_v1 (t := 10) (u := (Enc.enc (r_102 : List Int))) (Enc.enc (r_102 : List Int)) (keep_clear (s := s) (pk := [57]) h10 rfl (Enc.map_enc _ (r_102 : List Int))) rfl rfl ?_
          refine g_v1 (t := 11) (u := (.int .i64 i_119)) (.int .i64 i_119) (keep_clear (s := s) (pk := [57]) h11 rfl rfl) rfl rfl ?_
          obtain ⟨e_146, E_e_146, h⟩ := bind_some h
          refine g_v (.ref .sh 0 [] (.int .i64 e_146)) (ev_idx (t := .sh) (lo := 0) (xs := r_102) rfl rfl E_e_146 rfl rfl) ?_
          refine g_v1 (t := 55) (u := (.ref .sh 0 [] (.int .i64 e_146))) (.int .i64 e_146) rfl rfl rfl ?_
          obtain ⟨r_147, E_r_147, h⟩ := bind_some h
          refine g_callG (q := 7) (p := []) (o := (out_117 : NL Int)) (r := (encO .sh (r_147 : NL Int))) (u := (encO (.at 57 []) (r_147 : NL Int))) (kk := 1000000077) [.bool true, Enc.enc (e_146 : Int)] rfl rfl rfl H.g77o toks_encS tag_encO ok_encP (gone_clear (s := s) (pk := [57]) (t := 57) rfl) (by decide) (fun s_111 ha_111 => ⟨by exact (ta_cons (v := (.bool true)) rfl rfl rfl (ta_cons (v := (.int .i64 e_146)) (show s_111 56 = (.int .i64 e_146) from keep_app ha_111 rfl rfl) rfl rfl ta_nil)), by exact (H.c77o _ _ _ E_r_147), ?_⟩)
          refine g_v (encO (.at 57 []) (r_147 : NL Int)) (ev_mov rfl ok_encO) ?_
          refine g_end ?_
          refine e_home (r := 57) (x := 7) (v := (encO (.at 57 []) (r_147 : NL Int))) (by exact rfl) ok_encO (fun s_112 hg_112 => ?_)
          refine e_end ?_
          refine renew [(1, (Enc.enc (gone_2 : List Int))), (3, (.ref (.bx 3) 0 [] (.agg [(.int .i64 g_1.1), (Enc.enc (g_1.2 : List (Int × Int)))]))), (6, (.sl .nl (Enc.shp Int) 0 [])), (7, (encO (.at 7 []) (r_147 : NL Int))), (8, (encO (.at 8 []) (.of (seen_118 : List Int)))), (9, (.int .i64 k_53)), (10, (Enc.enc (r_102 : List Int))), (11, (.int .i64 i_119))] ⟨(hg_112 1 (Enc.enc (gone_2 : List Int)) (Enc.enc (gone_2 : List Int)) (show s_111 1 = (Enc.enc (gone_2 : List Int)) from keep_app ha_111 (keep_clear (s := s) (pk := [57]) h1 rfl (Enc.map_enc _ (gone_2 : List Int))) (Enc.map_enc _ (gone_2 : List Int))) (Enc.map_enc _ (gone_2 : List Int))), (hg_112 3 (.ref (.bx 3) 0 [] (.agg [(.int .i64 g_1.1), (Enc.enc (g_1.2 : List (Int × Int)))])) (.ref (.bx 3) 0 [] (.agg [(.int .i64 g_1.1), (Enc.enc (g_1.2 : List (Int × Int)))])) (show s_111 3 = (.ref (.bx 3) 0 [] (.agg [(.int .i64 g_1.1), (Enc.enc (g_1.2 : List (Int × Int)))])) from keep_app ha_111 (keep_clear (s := s) (pk := [57]) h3 rfl (map_bx rfl (map_agg (maps_cons rfl (maps_cons (Enc.map_enc _ (g_1.2 : List (Int × Int))) maps_nil))))) (map_bx rfl (map_agg (maps_cons rfl (maps_cons (Enc.map_enc _ (g_1.2 : List (Int × Int))) maps_nil))))) (map_bx rfl (map_agg (maps_cons rfl (maps_cons (Enc.map_enc _ (g_1.2 : List (Int × Int))) maps_nil))))), (hg_112 6 (.sl .nl (Enc.shp Int) 0 []) (.sl .nl (Enc.shp Int) 0 []) (show s_111 6 = (.sl .nl (Enc.shp Int) 0 []) from keep_app ha_111 (keep_clear (s := s) (pk := [57]) h6 rfl rfl) rfl) rfl), (hg_112 7 (encO (.at 57 []) (r_147 : NL Int)) (encO (.at 7 []) (r_147 : NL Int)) rfl (map_encO (r := 57) (p := []) rfl rfl)), (hg_112 8 (encO (.at 8 []) (.of (seen_118 : List Int))) (encO (.at 8 []) (.of (seen_118 : List Int))) (show s_111 8 = (encO (.at 8 []) (.of (seen_118 : List Int))) from keep_app ha_111 (keep_clear (s := s) (pk := [57]) h8 rfl (map_encO (r := 8) (p := []) rfl rfl)) (map_encO (r := 8) (p := []) rfl rfl)) (map_encO (r := 8) (p := []) rfl rfl)), (hg_112 9 (.int .i64 k_53) (.int .i64 k_53) (show s_111 9 = (.int .i64 k_53) from keep_app ha_111 (keep_clear (s := s) (pk := [57]) h9 rfl rfl) rfl) rfl), (hg_112 10 (Enc.enc (r_102 : List Int)) (Enc.enc (r_102 : List Int)) (show s_111 10 = (Enc.enc (r_102 : List Int)) from keep_app ha_111 (keep_clear (s := s) (pk := [57]) h10 rfl (Enc.map_enc _ (r_102 : List Int))) (Enc.map_enc _ (r_102 : List Int))) (Enc.map_enc _ (r_102 : List Int))), (hg_112 11 (.int .i64 i_119) (.int .i64 i_119) (show s_111 11 = (.int .i64 i_119) from keep_app ha_111 (keep_clear (s := s) (pk := [57]) h11 rfl rfl) rfl) rfl)⟩ ?_
          rintro s ⟨h1, h3, h6, h7, h8, h9, h10, h11⟩
          exact t_f121o_j1 H gone_2 g_1 k_53 r_102 i_119 c1 Hc1 (s_l5Later_o_l1 F gone_2 g_1 k_53 r_102 c1 k) ih r_147 seen_118 _ ⟨h1, h3, h6, h7, h8, h9, h10, h11⟩ h
    · refine .exit ?_
      refine .esq ?_
      refine .elp ?_
      refine .ebk ?_
      refine .nbk ?_
      refine .nsq ?_
      refine run_reg ?_
      refine e_end ?_
      refine g_v1 (t := 9) (u := (.int .i64 k_53)) (.int .i64 k_53) h9 rfl rfl ?_
      refine g_v1 (t := 19) (u := (.int .i64 k_53)) (.int .i64 (w64 (k_53 + 1))) rfl rfl rfl ?_
      refine g_v1 (t := 20) (u := (.int .i64 (w64 (k_53 + 1)))) (.int .i64 (w64 (k_53 + 1))) rfl rfl rfl ?_
      refine g_end ?_
      refine e_end ?_
      refine renew [(1, (Enc.enc (gone_2 : List Int))), (3, (.ref (.bx 3) 0 [] (.agg [(.int .i64 g_1.1), (Enc.enc (g_1.2 : List (Int × Int)))]))), (6, (.sl .nl (Enc.shp Int) 0 [])), (7, (encO (.at 7 []) (out_117 : NL Int))), (8, (encO (.at 8 []) (.of (seen_118 : List Int)))), (9, (.int .i64 (w64 (k_53 + 1))))] ⟨h1, h3, h6, h7, h8, rfl⟩ ?_
      rintro s ⟨h1, h3, h6, h7, h8, h9⟩
      refine .nlp ?_
      exact Hc1 out_117 seen_118 (w64 (k_53 + 1)) _ ⟨h1, h3, h6, h7, h8, h9⟩ h
def s_l5Later_o_l2 (F : Nat) (gone_2 : (List Int)) (g_1 : (Int × (List (Int × Int))))  : Nat → (NL Int) → (List Int) → Int → Option (NL Int)
  | 0, _, _, _ => none
  | k + 1, out_51, seen_52, k_53 =>
    bif decide (k_53 < (seen_52.length : Int)) then
      (idx seen_52 k_53).bind fun e_101 =>
      (s_l2Neighbors F g_1 e_101).bind fun r_102 =>
      s_l5Later_o_l1 F gone_2 g_1 k_53 r_102 (s_l5Later_o_l2 F gone_2 g_1 k) F out_51 seen_52 0
    else
      some out_51
theorem t_f121o_l2 (H : H121o D σ F) (gone_2 : (List Int)) (g_1 : (Int × (List (Int × Int))))  : ∀ (k : Nat) (out_51 : (NL Int)) (seen_52 : (List Int)) (k_53 : Int) (s : Nat → V), Facts [(1, (Enc.enc (gone_2 : List Int))), (3, (.ref (.bx 3) 0 [] (.agg [(.int .i64 g_1.1), (Enc.enc (g_1.2 : List (Int × Int)))]))), (6, (.sl .nl (Enc.shp Int) 0 [])), (7, (encO (.at 7 []) (out_51 : NL Int))), (8, (encO (.at 8 []) (.of (seen_52 : List Int)))), (9, (.int .i64 k_53))] s → s_l5Later_o_l2 F gone_2 g_1 k out_51 seen_52 k_53 = some r → Run D σ (R121o r) (.run A121o_1 [.lp A121o_1, .bk 0, .sq A121o_14]) s := by
  intro k
  induction k with
  | zero => intro out_51 seen_52 k_53 s _ h; exact nomatch (h : (none : Option _) = some r)
  | succ k ih =>
    intro out_51 seen_52 k_53 s hs h
    rw [s_l5Later_o_l2] at h
    obtain ⟨h1, h3, h6, h7, h8, h9⟩ := hs
    refine .seq ?_
    refine .seq ?_
    refine run_reg ?_
    refine e_end ?_
    refine g_v1 (t := 9) (u := (.int .i64 k_53)) (.int .i64 k_53) h9 rfl rfl ?_
    refine g_v1 (t := 8) (u := (encO (.at 8 []) (.of (seen_52 : List Int)))) (encO (.at 8 []) (.of (seen_52 : List Int))) h8 rfl rfl ?_
    refine g_v (.int .i64 (seen_52.length : Int)) (ev_lenO (o := .of seen_52) rfl) ?_
    refine g_v2 (t1 := 15) (t2 := 17) (u1 := (.int .i64 k_53)) (u2 := (.int .i64 (seen_52.length : Int))) (.bool (decide (k_53 < (seen_52.length : Int)))) rfl rfl rfl rfl ?_
    refine g_end ?_
    refine e_end ?_
    refine renew [(1, (Enc.enc (gone_2 : List Int))), (3, (.ref (.bx 3) 0 [] (.agg [(.int .i64 g_1.1), (Enc.enc (g_1.2 : List (Int × Int)))]))), (6, (.sl .nl (Enc.shp Int) 0 [])), (7, (encO (.at 7 []) (out_51 : NL Int))), (8, (encO (.at 8 []) (.of (seen_52 : List Int)))), (9, (.int .i64 k_53)), (18, (.bool (decide (k_53 < (seen_52.length : Int)))))] ⟨h1, h3, h6, h7, h8, h9, rfl⟩ ?_
    rintro s ⟨h1, h3, h6, h7, h8, h9, h18⟩
    refine .nsq ?_
    refine run_cond (t := decide (k_53 < (seen_52.length : Int))) h18 h (fun h => ?_) (fun h => ?_)
    · refine .skip ?_
      refine .nsq ?_
      refine .seq ?_
      refine .block ?_
      refine .seq ?_
      refine run_reg ?_
      refine e_end ?_
      refine g_v1 (t := 3) (u := (.ref (.bx 3) 0 [] (.agg [(.int .i64 g_1.1), (Enc.enc (g_1.2 : List (Int × Int)))]))) (.agg [(.int .i64 g_1.1), (Enc.enc (g_1.2 : List (Int × Int)))]) h3 rfl rfl ?_
      refine g_v1 (t := 8) (u := (encO (.at 8 []) (.of (seen_52 : List Int)))) (encO (.at 8 []) (.of (seen_52 : List Int))) h8 rfl rfl ?_
      refine g_v1 (t := 9) (u := (.int .i64 k_53)) (.int .i64 k_53) h9 rfl rfl ?_
      obtain ⟨e_101, E_e_101, h⟩ := bind_some h
      refine g_v (.ref (.at 8 []) k_53.toNat [] (.int .i64 e_101)) (ev_idxO (o := (.of seen_52)) rfl rfl E_e_101 rfl) ?_
      refine g_v1 (t := 24) (u := (.ref (.at 8 []) k_53.toNat [] (.int .i64 e_101))) (.int .i64 e_101) rfl rfl rfl ?_
      obtain ⟨r_102, E_r_102, h⟩ := bind_some h
      refine g_call (m := 0) (al := false) (r := (Enc.enc (r_102 : (List Int)))) [Enc.enc (g_1 : (Int × (List (Int × Int)))), Enc.enc (e_101 : Int)] (ta_cons (v := (.agg [(.int .i64 g_1.1), (Enc.enc (g_1.2 : List (Int × Int)))])) rfl rfl (Enc.erase_enc (g_1 : (Int × (List (Int × Int))))) (ta_cons (v := (.int .i64 e_101)) rfl rfl rfl ta_nil)) (H.c107 _ _ _ E_r_102) H.g107 rfl rfl rfl rfl ?_
      refine g_v1 (t := 26) (u := (Enc.enc (r_102 : List Int))) (Enc.enc (r_102 : List Int)) rfl rfl rfl ?_
      refine g_end ?_
      refine e_end ?_
      refine renew [(1, (Enc.enc (gone_2 : List Int))), (3, (.ref (.bx 3) 0 [] (.agg [(.int .i64 g_1.1), (Enc.enc (g_1.2 : List (Int × Int)))]))), (6, (.sl .nl (Enc.shp Int) 0 [])), (7, (encO (.at 7 []) (out_51 : NL Int))), (8, (encO (.at 8 []) (.of (seen_52 : List Int)))), (9, (.int .i64 k_53)), (10, (Enc.enc (r_102 : List Int)))] ⟨h1, h3, h6, h7, h8, h9, rfl⟩ ?_
      rintro s ⟨h1, h3, h6, h7, h8, h9, h10⟩
      refine .nsq ?_
      refine .seq ?_
      refine run_reg ?_
      refine e_end ?_
      refine g_v0 (.int .i64 0) rfl rfl ?_
      refine g_end ?_
      refine e_end ?_
      refine renew [(1, (Enc.enc (gone_2 : List Int))), (3, (.ref (.bx 3) 0 [] (.agg [(.int .i64 g_1.1), (Enc.enc (g_1.2 : List (Int × Int)))]))), (6, (.sl .nl (Enc.shp Int) 0 [])), (7, (encO (.at 7 []) (out_51 : NL Int))), (8, (encO (.at 8 []) (.of (seen_52 : List Int)))), (9, (.int .i64 k_53)), (10, (Enc.enc (r_102 : List Int))), (11, (.int .i64 0))] ⟨h1, h3, h6, h7, h8, h9, h10, rfl⟩ ?_
      rintro s ⟨h1, h3, h6, h7, h8, h9, h10, h11⟩
      refine .nsq ?_
      refine .block ?_
      refine .loop ?_
      exact t_f121o_l1 H gone_2 g_1 k_53 r_102 (s_l5Later_o_l2 F gone_2 g_1 k) ih F out_51 seen_52 0 _ ⟨h1, h3, h6, h7, h8, h9, h10, h11⟩ h
    · refine .exit ?_
      refine .esq ?_
      refine .elp ?_
      refine .ebk ?_
      refine .nsq ?_
      refine .seq ?_
      refine run_reg ?_
      refine e_end ?_
      refine g_v (encO (.at 7 []) (out_51 : NL Int)) (ev_mov h7 ok_encO) ?_
      refine g_v (encO (.at 7 []) (out_51 : NL Int)) (ev_mov rfl ok_encO) ?_
      refine g_end ?_
      refine e_home (r := 7) (x := 6) (v := (encO (.at 7 []) (out_51 : NL Int))) (by exact rfl) ok_encO (fun s_113 hg_113 => ?_)
      refine e_end ?_
      refine renew [(6, (encO (.at 6 []) (out_51 : NL Int)))] (hg_113 6 (encO (.at 7 []) (out_51 : NL Int)) (encO (.at 6 []) (out_51 : NL Int)) rfl (map_encO (r := 7) (p := []) rfl rfl)) ?_
      rintro s h6
      refine .nsq ?_
      refine .ret ?_
      have hr := Option.some.inj h
      subst hr
      exact rrA (res_tmp h6) (fin_retO (finO_own (o := (out_51 : NL Int))) rfl (mine_own rfl))
def s_l5Later_o (F : Nat) (g_1 : (Int × (List (Int × Int)))) (gone_2 : (List Int)) (x_3 : Int) : Option (NL Int) :=
  s_l5Later_o_l2 F gone_2 g_1 F (.of []) [x_3] 0
theorem t121o (H : H121o D σ F) (g_1 : (Int × (List (Int × Int)))) (gone_2 : (List Int)) (x_3 : Int) (s : Nat → V) (hs : Facts [(0, (.agg [(.int .i64 g_1.1), (Enc.enc (g_1.2 : List (Int × Int)))])), (1, (Enc.enc (gone_2 : List Int))), (2, (.int .i64 x_3))] s) (h : s_l5Later_o F g_1 gone_2 x_3 = some r) : Run D σ (R121o r) (.run A121o []) s := by
  unfold s_l5Later_o at h
  obtain ⟨h0, h1, h2⟩ := hs
  refine .seq ?_
  refine run_reg ?_
  refine e_clr ?_
  refine e_end ?_
  refine g_box (.agg [(.int .i64 g_1.1), (Enc.enc (g_1.2 : List (Int × Int)))]) (rd_of (keep_clear (s := s) (pk := [3]) h0 rfl (map_agg (maps_cons rfl (maps_cons (Enc.map_enc _ (g_1.2 : List (Int × Int))) maps_nil)))) rfl) (gone_clear (s := s) (pk := [3]) (t := 3) rfl) rfl ?_
  refine g_v0 (.sl .nl (Enc.shp Int) 0 []) rfl rfl ?_
  refine g_end ?_
  refine e_end ?_
  refine renew [(1, (Enc.enc (gone_2 : List Int))), (2, (.int .i64 x_3)), (3, (.ref (.bx 3) 0 [] (.agg [(.int .i64 g_1.1), (Enc.enc (g_1.2 : List (Int × Int)))]))), (6, (.sl .nl (Enc.shp Int) 0 []))] ⟨(keep_clear (s := s) (pk := [3]) h1 rfl (Enc.map_enc _ (gone_2 : List Int))), (keep_clear (s := s) (pk := [3]) h2 rfl rfl), rfl, rfl⟩ ?_
  rintro s ⟨h1, h2, h3, h6⟩
  refine .nsq ?_
  refine .seq ?_
  refine run_reg ?_
  refine e_clr ?_
  refine e_end ?_
  refine g_litL [] [] trivial rfl rfl (gone_clear (s := s) (pk := [12, 14]) (t := 12) rfl) ?_
  refine g_v1 (t := 2) (u := (.int .i64 x_3)) (.int .i64 x_3) (keep_clear (s := s) (pk := [12, 14]) h2 rfl rfl) rfl rfl ?_
  refine g_litL [(13, (.int .i64 x_3))] [Enc.enc (x_3 : Int)] rfl rfl rfl (gone_clear (s := s) (pk := [12, 14]) (t := 14) rfl) ?_
  refine g_v1 (t := 12) (u := (encO (.at 12 []) (.of ([] : List Int)))) (encO (.at 12 []) (.of ([] : List Int))) rfl rfl rfl ?_
  refine g_v1 (t := 14) (u := (encO (.at 14 []) (.of ([x_3] : List Int)))) (encO (.at 14 []) (.of ([x_3] : List Int))) rfl rfl rfl ?_
  refine g_end ?_
  refine e_home (r := 12) (x := 7) (v := (encO (.at 12 []) (.of ([] : List Int)))) (by exact rfl) rfl (fun s_3 hg_3 => ?_)
  refine e_home (r := 14) (x := 8) (v := (encO (.at 14 []) (.of ([x_3] : List Int)))) (by exact (hg_3 8 (encO (.at 14 []) (.of ([x_3] : List Int))) (encO (.at 14 []) (.of ([x_3] : List Int))) rfl (map_encO (r := 14) (p := []) rfl rfl))) rfl (fun s_4 hg_4 => ?_)
  refine e_end ?_
  refine renew [(1, (Enc.enc (gone_2 : List Int))), (3, (.ref (.bx 3) 0 [] (.agg [(.int .i64 g_1.1), (Enc.enc (g_1.2 : List (Int × Int)))]))), (6, (.sl .nl (Enc.shp Int) 0 [])), (7, (encO (.at 7 []) (.of ([] : List Int)))), (8, (encO (.at 8 []) (.of ([x_3] : List Int))))] ⟨(hg_4 1 (Enc.enc (gone_2 : List Int)) (Enc.enc (gone_2 : List Int)) (hg_3 1 (Enc.enc (gone_2 : List Int)) (Enc.enc (gone_2 : List Int)) (keep_clear (s := s) (pk := [12, 14]) h1 rfl (Enc.map_enc _ (gone_2 : List Int))) (Enc.map_enc _ (gone_2 : List Int))) (Enc.map_enc _ (gone_2 : List Int))), (hg_4 3 (.ref (.bx 3) 0 [] (.agg [(.int .i64 g_1.1), (Enc.enc (g_1.2 : List (Int × Int)))])) (.ref (.bx 3) 0 [] (.agg [(.int .i64 g_1.1), (Enc.enc (g_1.2 : List (Int × Int)))])) (hg_3 3 (.ref (.bx 3) 0 [] (.agg [(.int .i64 g_1.1), (Enc.enc (g_1.2 : List (Int × Int)))])) (.ref (.bx 3) 0 [] (.agg [(.int .i64 g_1.1), (Enc.enc (g_1.2 : List (Int × Int)))])) (keep_clear (s := s) (pk := [12, 14]) h3 rfl (map_bx rfl (map_agg (maps_cons rfl (maps_cons (Enc.map_enc _ (g_1.2 : List (Int × Int))) maps_nil))))) (map_bx rfl (map_agg (maps_cons rfl (maps_cons (Enc.map_enc _ (g_1.2 : List (Int × Int))) maps_nil))))) (map_bx rfl (map_agg (maps_cons rfl (maps_cons (Enc.map_enc _ (g_1.2 : List (Int × Int))) maps_nil))))), (hg_4 6 (.sl .nl (Enc.shp Int) 0 []) (.sl .nl (Enc.shp Int) 0 []) (hg_3 6 (.sl .nl (Enc.shp Int) 0 []) (.sl .nl (Enc.shp Int) 0 []) (keep_clear (s := s) (pk := [12, 14]) h6 rfl rfl) rfl) rfl), (hg_4 7 (encO (.at 7 []) (.of ([] : List Int))) (encO (.at 7 []) (.of ([] : List Int))) (hg_3 7 (encO (.at 12 []) (.of ([] : List Int))) (encO (.at 7 []) (.of ([] : List Int))) rfl (map_encO (r := 12) (p := []) rfl rfl)) (map_encO (r := 7) (p := []) rfl rfl)), (hg_4 8 (encO (.at 14 []) (.of ([x_3] : List Int))) (encO (.at 8 []) (.of ([x_3] : List Int))) (hg_3 8 (encO (.at 14 []) (.of ([x_3] : List Int))) (encO (.at 14 []) (.of ([x_3] : List Int))) rfl (map_encO (r := 14) (p := []) rfl rfl)) (map_encO (r := 14) (p := []) rfl rfl))⟩ ?_
  rintro s ⟨h1, h3, h6, h7, h8⟩
  refine .nsq ?_
  refine .seq ?_
  refine .seq ?_
  refine run_reg ?_
  refine e_end ?_
  refine g_v0 (.int .i64 0) rfl rfl ?_
  refine g_end ?_
  refine e_end ?_
  refine renew [(1, (Enc.enc (gone_2 : List Int))), (3, (.ref (.bx 3) 0 [] (.agg [(.int .i64 g_1.1), (Enc.enc (g_1.2 : List (Int × Int)))]))), (6, (.sl .nl (Enc.shp Int) 0 [])), (7, (encO (.at 7 []) (.of ([] : List Int)))), (8, (encO (.at 8 []) (.of ([x_3] : List Int)))), (9, (.int .i64 0))] ⟨h1, h3, h6, h7, h8, rfl⟩ ?_
  rintro s ⟨h1, h3, h6, h7, h8, h9⟩
  refine .nsq ?_
  refine .block ?_
  refine .loop ?_
  exact t_f121o_l2 H gone_2 g_1 F (.of []) [x_3] 0 _ ⟨h1, h3, h6, h7, h8, h9⟩ h
end
def e121o (F : Nat) : Ent := ⟨1000000121, da (fun (x : ((Int × (List (Int × Int))) × (List Int) × Int × Unit)) => s_l5Later_o F x.1 x.2.1 x.2.2.1) (fun (r : (NL Int)) => (encO .sh (r : NL Int))), 1, false, selF []⟩
theorem p121o {F : Nat} {x0 : (Int × (List (Int × Int)))} {x1 : (List Int)} {x2 : Int} {r : (NL Int)} (h : s_l5Later_o F x0 x1 x2 = some r) : (e121o F).den [Enc.enc x0, Enc.enc x1, Enc.enc x2] = some (encO .sh (r : NL Int)) := da_put (f := fun (x : ((Int × (List (Int × Int))) × (List Int) × Int × Unit)) => s_l5Later_o F x.1 x.2.1 x.2.2.1) (t := fun (r : (NL Int)) => (encO .sh (r : NL Int))) (x0, x1, x2, ()) h
theorem o121o {D : Den} {σ : Sig} {F : Nat} (hF : Fits2 Try.prog D σ) (H : H121o D σ F) : (e121o F).Ok Try.prog := by
  refine ok_of (f := 121) (show unk 1000000121 = 121 from rfl) (fun args r h => ?_) ⟨Try.f121, Try.func121, rfl, rfl⟩
  obtain ⟨⟨x0, x1, x2, _⟩, y, rfl, hy, rfl⟩ := da_open h
  exact contract_run hF (by kernel_rfl) Try.func121 rfl c121o (show 3 ≤ Try.f121.ntmps by decide) (t121o H x0 x1 x2 _ ⟨rfl, rfl, rfl⟩ hy)
/- loop.example/g01109/spec.l1Most -/
def A66_2 : AC := (.cond (.t 7) (.seq (.reg [] [(.mk (some 8) none false (.v (.mov (.t 0)))), (.mk (some 4) none false (.v (.mov (.t 8))))] []) .ret) .skip)
def A66_3 : AC := (.seq (.reg [] [(.mk (some 9) none false (.v (.mov (.t 1)))), (.mk (some 4) none false (.v (.mov (.t 9))))] []) .ret)
def A66_1 : AC := (.seq (.seq (.reg [] [(.mk (some 5) none false (.v (.mov (.t 0)))), (.mk (some 6) none false (.v (.mov (.t 1)))), (.mk (some 7) none false (.v (.bin .gtr (.t 5) (.t 6))))] []) A66_2) A66_3)
def A66 : AC := (.seq (.reg [] [(.mk (some 4) none false (.v (.mov (.k (.int .i64 (.ofNat 0))))))] []) A66_1)
def an66 : List An := []
theorem c66 : cC Try.prog Try.f66.ntmps an66 (Try.f66.body.getD .skip) = some A66 := by kernel_rfl
structure H66 (D : Den) (σ : Sig) (F : Nat) : Prop where
  mk ::
abbrev R66 (r : Int) : (Nat → V) → Prop := RR Try.prog [.tmp 4] 0 false (Enc.enc (r : Int))
section
variable {D : Den} {σ : Sig} {F : Nat} {r : Int}
def s_l1Most (F : Nat) (a_1 : Int) (b_2 : Int) : Option Int :=
  bif decide (a_1 > b_2) then
    some a_1
  else
    some b_2
theorem t66 (H : H66 D σ F) (a_1 : Int) (b_2 : Int) (s : Nat → V) (hs : Facts [(0, (.int .i64 a_1)), (1, (.int .i64 b_2))] s) (h : s_l1Most F a_1 b_2 = some r) : Run D σ (R66 r) (.run A66 []) s := by
  unfold s_l1Most at h
  obtain ⟨h0, h1⟩ := hs
  refine .seq ?_
  refine run_reg ?_
  refine e_end ?_
  refine g_v0 (.int .i64 0) rfl rfl ?_
  refine g_end ?_
  refine e_end ?_
  refine renew [(0, (.int .i64 a_1)), (1, (.int .i64 b_2)), (4, (.int .i64 0))] ⟨h0, h1, rfl⟩ ?_
  rintro s ⟨h0, h1, h4⟩
  refine .nsq ?_
  refine .seq ?_
  refine .seq ?_
  refine run_reg ?_
  refine e_end ?_
  refine g_v1 (t := 0) (u := (.int .i64 a_1)) (.int .i64 a_1) h0 rfl rfl ?_
  refine g_v1 (t := 1) (u := (.int .i64 b_2)) (.int .i64 b_2) h1 rfl rfl ?_
  refine g_v2 (t1 := 5) (t2 := 6) (u1 := (.int .i64 a_1)) (u2 := (.int .i64 b_2)) (.bool (decide (a_1 > b_2))) rfl rfl rfl rfl ?_
  refine g_end ?_
  refine e_end ?_
  refine renew [(0, (.int .i64 a_1)), (1, (.int .i64 b_2)), (4, (.int .i64 0)), (7, (.bool (decide (a_1 > b_2))))] ⟨h0, h1, h4, rfl⟩ ?_
  rintro s ⟨h0, h1, h4, h7⟩
  refine .nsq ?_
  refine run_cond (t := decide (a_1 > b_2)) h7 h (fun h => ?_) (fun h => ?_)
  · refine .seq ?_
    refine run_reg ?_
    refine e_end ?_
    refine g_v1 (t := 0) (u := (.int .i64 a_1)) (.int .i64 a_1) h0 rfl rfl ?_
    refine g_v1 (t := 8) (u := (.int .i64 a_1)) (.int .i64 a_1) rfl rfl rfl ?_
    refine g_end ?_
    refine e_end ?_
    refine renew [(1, (.int .i64 b_2)), (4, (.int .i64 a_1))] ⟨h1, rfl⟩ ?_
    rintro s ⟨h1, h4⟩
    refine .nsq ?_
    refine .ret ?_
    have hr := Option.some.inj h
    subst hr
    exact rrA (res_tmp h4) rfl
  · refine .skip ?_
    refine .nsq ?_
    refine .seq ?_
    refine run_reg ?_
    refine e_end ?_
    refine g_v1 (t := 1) (u := (.int .i64 b_2)) (.int .i64 b_2) h1 rfl rfl ?_
    refine g_v1 (t := 9) (u := (.int .i64 b_2)) (.int .i64 b_2) rfl rfl rfl ?_
    refine g_end ?_
    refine e_end ?_
    refine renew [(4, (.int .i64 b_2))] rfl ?_
    rintro s h4
    refine .nsq ?_
    refine .ret ?_
    have hr := Option.some.inj h
    subst hr
    exact rrA (res_tmp h4) rfl
end
def e66 (F : Nat) : Ent := ⟨66, da (fun (x : (Int × Int × Unit)) => s_l1Most F x.1 x.2.1) (fun (r : Int) => (Enc.enc (r : Int))), 0, false, selF []⟩
theorem p66 {F : Nat} {x0 : Int} {x1 : Int} {r : Int} (h : s_l1Most F x0 x1 = some r) : (e66 F).den [Enc.enc x0, Enc.enc x1] = some (Enc.enc (r : Int)) := da_put (f := fun (x : (Int × Int × Unit)) => s_l1Most F x.1 x.2.1) (t := fun (r : Int) => (Enc.enc (r : Int))) (x0, x1, ()) h
theorem o66 {D : Den} {σ : Sig} {F : Nat} (hF : Fits2 Try.prog D σ) (H : H66 D σ F) : (e66 F).Ok Try.prog := by
  refine ok_of (f := 66) (show unk 66 = 66 from rfl) (fun args r h => ?_) ⟨Try.f66, Try.func66, rfl, rfl⟩
  obtain ⟨⟨x0, x1, _⟩, y, rfl, hy, rfl⟩ := da_open h
  exact contract_run hF (by kernel_rfl) Try.func66 rfl c66 (show 2 ≤ Try.f66.ntmps by decide) (t66 H x0 x1 _ ⟨rfl, rfl⟩ hy)
end Go.Zq
