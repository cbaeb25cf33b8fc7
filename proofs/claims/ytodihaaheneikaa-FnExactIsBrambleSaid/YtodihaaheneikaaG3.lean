/- Functions of the program as typed functions, and that the machine runs as they say (part 3). No further condition. -/
import Derived.Test.YtodihaaheneikaaK2
import Derived.Test.YtodihaaheneikaaProg
import Derived.Test.YtodihaaheneikaaChecked
import Derived.KernelRfl
import Derived.Test.YtodihaaheneikaaG2
set_option linter.unusedVariables false
set_option linter.unusedSimpArgs false
/- Functions of the program, as typed functions, and that the machine runs as they say. -/
namespace Go.Zq
open Go.Proofs
/- loop.example/g01109/impl.allWithin -/
def A132_5 : AC := (AC.cond (O.t 19) (AC.seq (AC.reg [] [(I.mk (some 6) none false (X.v (A.mov (O.k (V.bool false)))))] []) AC.ret) AC.skip)
def A132_4 : AC := (AC.seq (AC.reg [] [(I.mk (some 15) none false (X.v (A.mov (O.t 8)))), (I.mk (some 16) none false (X.v (A.mov (O.t 1)))), (I.mk (some 17) none false (X.v (A.mov (O.t 2)))), (I.mk (some 18) none false (X.call (O.k (V.fn 62 [] [])) [(O.t 15), (O.t 16), (O.t 17)])), (I.mk (some 19) none false (X.v (A.un UnOp.not (O.t 18))))] []) A132_5)
def A132_6 : AC := (AC.reg [] [(I.mk (some 20) none false (X.v (A.bin BinOp.add (O.t 11) (O.k (V.int IntKind.i64 (Int.ofNat 1)))))), (I.mk (some 11) none false (X.v (A.mov (O.t 20))))] [])
def A132_3 : AC := (AC.seq (AC.block 1 (AC.seq (AC.reg [] [(I.mk (some 13) none false (X.v (A.idx (O.t 9) (O.t 11) 1))), (I.mk (some 14) none false (X.v (A.load Sh.s (O.t 13)))), (I.mk (some 8) none false (X.v (A.mov (O.t 14))))] []) A132_4)) A132_6)
def A132_2 : AC := (AC.seq (AC.cond (O.t 12) AC.skip (AC.exit 0)) A132_3)
def A132_1 : AC := (AC.seq (AC.reg [] [(I.mk (some 12) none false (X.v (A.bin BinOp.lss (O.t 11) (O.t 10))))] []) A132_2)
def A132_7 : AC := (AC.seq (AC.reg [] [(I.mk (some 6) none false (X.v (A.mov (O.k (V.bool true)))))] []) AC.ret)
def A132_9 : AC := (AC.block 0 (AC.loop A132_1))
def A132_8 : AC := (AC.seq (AC.seq (AC.reg [] [(I.mk (some 9) none false (X.v (A.mov (O.t 0)))), (I.mk (some 10) none false (X.v (A.len (O.t 9)))), (I.mk (some 11) none false (X.v (A.mov (O.k (V.int IntKind.i64 (Int.ofNat 0))))))] []) A132_9) A132_7)
def A132 : AC := (AC.seq (AC.reg [] [(I.mk (some 6) none false (X.v (A.mov (O.k (V.bool false)))))] []) A132_8)
def an132 : List An := []
theorem c132 : cC Try.prog Try.f132.ntmps an132 (Try.f132.body.getD .skip) = some A132 := by kernel_rfl
structure H132 (D : Den) (σ : Sig) (F : Nat) : Prop where
  c62 : ∀ (x0 : Int) (x1 : Int) (x2 : Int) r, i_within F x0 x1 x2 = some r → D 62 [Enc.enc x0, Enc.enc x1, Enc.enc x2] = some (Enc.enc (r : Bool))
  g62 : σ 62 = some (0, false)
abbrev R132 (r : Bool) : (Nat → V) → Prop := RR Try.prog [.tmp 6] 0 false (Enc.enc (r : Bool))
section
variable {D : Den} {σ : Sig} {F : Nat} {r : Bool}
def i_allWithin_l1 (F : Nat) (low_2 : Int) (high_3 : Int) (list_1 : (List Int))  : Nat → Int → Option Bool
  | 0, _ => none
  | k + 1, t11_6 =>
    bif decide (t11_6 < (list_1.length : Int)) then
      (idx list_1 t11_6).bind fun e_9 =>
      (i_within F e_9 low_2 high_3).bind fun r_10 =>
      bif (!r_10) then
        some false
      else
        (i_allWithin_l1 F low_2 high_3 list_1 k) (w64 (t11_6 + 1))
    else
      some true
theorem t_f132_l1 (H : H132 D σ F) (low_2 : Int) (high_3 : Int) (list_1 : (List Int))  : ∀ (k : Nat) (t11_6 : Int) (s : Nat → V), Facts [(1, (.int .i64 low_2)), (2, (.int .i64 high_3)), (6, (.bool false)), (9, (Enc.enc (list_1 : List Int))), (10, (.int .i64 (list_1.length : Int))), (11, (.int .i64 t11_6))] s → i_allWithin_l1 F low_2 high_3 list_1 k t11_6 = some r → Run D σ (R132 r) (.run A132_1 [.lp A132_1, .bk 0, .sq A132_7]) s := by
  intro k
  induction k with
  | zero => intro t11_6 s _ h; exact nomatch (h : (none : Option _) = some r)
  | succ k ih =>
    intro t11_6 s hs h
    rw [i_allWithin_l1] at h
    obtain ⟨h1, h2, h6, h9, h10, h11⟩ := hs
    refine .seq ?_
    refine run_reg ?_
    refine e_end ?_
    refine g_v2 (t1 := 11) (t2 := 10) (u1 := (.int .i64 t11_6)) (u2 := (.int .i64 (list_1.length : Int))) (.bool (decide (t11_6 < (list_1.length : Int)))) h11 h10 rfl rfl ?_
    refine g_end ?_
    refine e_end ?_
    refine renew [(1, (.int .i64 low_2)), (2, (.int .i64 high_3)), (6, (.bool false)), (9, (Enc.enc (list_1 : List Int))), (10, (.int .i64 (list_1.length : Int))), (11, (.int .i64 t11_6)), (12, (.bool (decide (t11_6 < (list_1.length : Int)))))] ⟨h1, h2, h6, h9, h10, h11, rfl⟩ ?_
    rintro s ⟨h1, h2, h6, h9, h10, h11, h12⟩
    refine .nsq ?_
    refine .seq ?_
    refine run_cond (t := decide (t11_6 < (list_1.length : Int))) h12 h (fun h => ?_) (fun h => ?_)
    · refine .skip ?_
      refine .nsq ?_
      refine .seq ?_
      refine .block ?_
      refine .seq ?_
      refine run_reg ?_
      refine e_end ?_
      obtain ⟨e_9, E_e_9, h⟩ := bind_some h
      refine g_v (.ref .sh 0 [] (.int .i64 e_9)) (ev_idx (t := .sh) (lo := 0) (xs := list_1) h9 h11 E_e_9 rfl rfl) ?_
      refine g_v1 (t := 13) (u := (.ref .sh 0 [] (.int .i64 e_9))) (.int .i64 e_9) rfl rfl rfl ?_
      refine g_v1 (t := 14) (u := (.int .i64 e_9)) (.int .i64 e_9) rfl rfl rfl ?_
      refine g_end ?_
      refine e_end ?_
      refine renew [(1, (.int .i64 low_2)), (2, (.int .i64 high_3)), (6, (.bool false)), (8, (.int .i64 e_9)), (9, (Enc.enc (list_1 : List Int))), (10, (.int .i64 (list_1.length : Int))), (11, (.int .i64 t11_6))] ⟨h1, h2, h6, rfl, h9, h10, h11⟩ ?_
      rintro s ⟨h1, h2, h6, h8, h9, h10, h11⟩
      refine .nsq ?_
      refine .seq ?_
      refine run_reg ?_
      refine e_end ?_
      refine g_v1 (t := 8) (u := (.int .i64 e_9)) (.int .i64 e_9) h8 rfl rfl ?_
      refine g_v1 (t := 1) (u := (.int .i64 low_2)) (.int .i64 low_2) h1 rfl rfl ?_
      refine g_v1 (t := 2) (u := (.int .i64 high_3)) (.int .i64 high_3) h2 rfl rfl ?_
      obtain ⟨r_10, E_r_10, h⟩ := bind_some h
      refine g_call (m := 0) (al := false) (r := (Enc.enc (r_10 : Bool))) [Enc.enc (e_9 : Int), Enc.enc (low_2 : Int), Enc.enc (high_3 : Int)] (ta_cons (v := (.int .i64 e_9)) rfl rfl rfl (ta_cons (v := (.int .i64 low_2)) rfl rfl rfl (ta_cons (v := (.int .i64 high_3)) rfl rfl rfl ta_nil))) (H.c62 _ _ _ _ E_r_10) H.g62 rfl rfl rfl rfl ?_
      refine g_v1 (t := 18) (u := (.bool r_10)) (.bool (!r_10)) rfl rfl rfl ?_
      refine g_end ?_
      refine e_end ?_
      refine renew [(1, (.int .i64 low_2)), (2, (.int .i64 high_3)), (6, (.bool false)), (9, (Enc.enc (list_1 : List Int))), (10, (.int .i64 (list_1.length : Int))), (11, (.int .i64 t11_6)), (19, (.bool (!r_10)))] ⟨h1, h2, h6, h9, h10, h11, rfl⟩ ?_
      rintro s ⟨h1, h2, h6, h9, h10, h11, h19⟩
      refine .nsq ?_
      refine run_cond (t := (!r_10)) h19 h (fun h => ?_) (fun h => ?_)
      · refine .seq ?_
        refine run_reg ?_
        refine e_end ?_
        refine g_v0 (.bool false) rfl rfl ?_
        refine g_end ?_
        refine e_end ?_
        refine renew [(1, (.int .i64 low_2)), (2, (.int .i64 high_3)), (6, (.bool false)), (9, (Enc.enc (list_1 : List Int))), (10, (.int .i64 (list_1.length : Int))), (11, (.int .i64 t11_6))] ⟨h1, h2, rfl, h9, h10, h11⟩ ?_
        rintro s ⟨h1, h2, h6, h9, h10, h11⟩
        refine .nsq ?_
        refine .ret ?_
        have hr := Option.some.inj h
        subst hr
        exact rrA (res_tmp h6) rfl
      · refine .skip ?_
        refine .nbk ?_
        refine .nsq ?_
        refine run_reg ?_
        refine e_end ?_
        refine g_v1 (t := 11) (u := (.int .i64 t11_6)) (.int .i64 (w64 (t11_6 + 1))) h11 rfl rfl ?_
        refine g_v1 (t := 20) (u := (.int .i64 (w64 (t11_6 + 1)))) (.int .i64 (w64 (t11_6 + 1))) rfl rfl rfl ?_
        refine g_end ?_
        refine e_end ?_
        refine renew [(1, (.int .i64 low_2)), (2, (.int .i64 high_3)), (6, (.bool false)), (9, (Enc.enc (list_1 : List Int))), (10, (.int .i64 (list_1.length : Int))), (11, (.int .i64 (w64 (t11_6 + 1))))] ⟨h1, h2, h6, h9, h10, rfl⟩ ?_
        rintro s ⟨h1, h2, h6, h9, h10, h11⟩
        refine .nlp ?_
        exact ih (w64 (t11_6 + 1)) _ ⟨h1, h2, h6, h9, h10, h11⟩ h
    · refine .exit ?_
      refine .esq ?_
      refine .elp ?_
      refine .ebk ?_
      refine .nsq ?_
      refine .seq ?_
      refine run_reg ?_
      refine e_end ?_
      refine g_v0 (.bool true) rfl rfl ?_
      refine g_end ?_
      refine e_end ?_
      refine renew [(6, (.bool true))] rfl ?_
      rintro s h6
      refine .nsq ?_
      refine .ret ?_
      have hr := Option.some.inj h
      subst hr
      exact rrA (res_tmp h6) rfl
def i_allWithin (F : Nat) (list_1 : (List Int)) (low_2 : Int) (high_3 : Int) : Option Bool :=
  i_allWithin_l1 F low_2 high_3 list_1 F 0
theorem t132 (H : H132 D σ F) (list_1 : (List Int)) (low_2 : Int) (high_3 : Int) (s : Nat → V) (hs : Facts [(0, (Enc.enc (list_1 : List Int))), (1, (.int .i64 low_2)), (2, (.int .i64 high_3))] s) (h : i_allWithin F list_1 low_2 high_3 = some r) : Run D σ (R132 r) (.run A132 []) s := by
  unfold i_allWithin at h
  obtain ⟨h0, h1, h2⟩ := hs
  refine .seq ?_
  refine run_reg ?_
  refine e_end ?_
  refine g_v0 (.bool false) rfl rfl ?_
  refine g_end ?_
  refine e_end ?_
  refine renew [(0, (Enc.enc (list_1 : List Int))), (1, (.int .i64 low_2)), (2, (.int .i64 high_3)), (6, (.bool false))] ⟨h0, h1, h2, rfl⟩ ?_
  rintro s ⟨h0, h1, h2, h6⟩
  refine .nsq ?_
  refine .seq ?_
  refine .seq ?_
  refine run_reg ?_
  refine e_end ?_
  refine g_v1 (t := 0) (u := (Enc.enc (list_1 : List Int))) (Enc.enc (list_1 : List Int)) h0 rfl rfl ?_
  refine g_v (.int .i64 (list_1.length : Int)) (ev_len (xs := list_1) rfl) ?_
  refine g_v0 (.int .i64 0) rfl rfl ?_
  refine g_end ?_
  refine e_end ?_
  refine renew [(1, (.int .i64 low_2)), (2, (.int .i64 high_3)), (6, (.bool false)), (9, (Enc.enc (list_1 : List Int))), (10, (.int .i64 (list_1.length : Int))), (11, (.int .i64 0))] ⟨h1, h2, h6, rfl, rfl, rfl⟩ ?_
  rintro s ⟨h1, h2, h6, h9, h10, h11⟩
  refine .nsq ?_
  refine .block ?_
  refine .loop ?_
  exact t_f132_l1 H low_2 high_3 list_1 F 0 _ ⟨h1, h2, h6, h9, h10, h11⟩ h
end
def e132 (F : Nat) : Ent := ⟨132, da (fun (x : ((List Int) × Int × Int × Unit)) => i_allWithin F x.1 x.2.1 x.2.2.1) (fun (r : Bool) => (Enc.enc (r : Bool))), 0, false, selF []⟩
theorem p132 {F : Nat} {x0 : (List Int)} {x1 : Int} {x2 : Int} {r : Bool} (h : i_allWithin F x0 x1 x2 = some r) : (e132 F).den [Enc.enc x0, Enc.enc x1, Enc.enc x2] = some (Enc.enc (r : Bool)) := da_put (f := fun (x : ((List Int) × Int × Int × Unit)) => i_allWithin F x.1 x.2.1 x.2.2.1) (t := fun (r : Bool) => (Enc.enc (r : Bool))) (x0, x1, x2, ()) h
theorem o132 {D : Den} {σ : Sig} {F : Nat} (hF : Fits2 Try.prog D σ) (H : H132 D σ F) : (e132 F).Ok Try.prog := by
  refine ⟨fun args r h => ?_, ⟨Try.f132, Try.func132, rfl, rfl⟩⟩
  obtain ⟨⟨x0, x1, x2, _⟩, y, rfl, hy, rfl⟩ := da_open h
  exact contract_run hF (by kernel_rfl) Try.func132 rfl c132 (show 3 ≤ Try.f132.ntmps by decide) (t132 H x0 x1 x2 _ ⟨rfl, rfl, rfl⟩ hy)
/- loop.example/g01109/impl.hasNodes -/
def A116_1 : AC := (AC.seq (AC.reg [] [(I.mk (some 5) none false (X.v (A.load (Sh.ag [Sh.s, Sh.p]) (O.t 2)))), (I.mk (some 6) none false (X.call (O.k (V.fn 53 [] [])) [(O.t 5)])), (I.mk (some 7) none false (X.v (A.mov (O.t 6)))), (I.mk (some 8) (some (7, true)) false (X.v (A.mov (O.t 1)))), (I.mk (some 9) (some (7, true)) false (X.v (A.fld (O.t 2) 0 0))), (I.mk (some 10) (some (7, true)) false (X.v (A.load Sh.s (O.t 9)))), (I.mk (some 11) (some (7, true)) false (X.v (A.bin BinOp.sub (O.t 10) (O.k (V.int IntKind.i64 (Int.ofNat 1)))))), (I.mk (some 12) (some (7, true)) false (X.call (O.k (V.fn 132 [] [])) [(O.t 8), (O.k (V.int IntKind.i64 (Int.ofNat 0))), (O.t 11)])), (I.mk (some 13) none false (X.v (A.pick (O.t 7) (O.t 12) (O.k (V.bool false))))), (I.mk (some 4) none false (X.v (A.mov (O.t 13))))] []) AC.ret)
def A116 : AC := (AC.seq (AC.reg [.clr [2]] [(I.mk (some 2) none false (X.box (O.t 0))), (I.mk (some 4) none false (X.v (A.mov (O.k (V.bool false)))))] []) A116_1)
def an116 : List An := [{ id := 0, pre := [.clr [2]], ep := [], lin := [], sp := [] }]
theorem c116 : cC Try.prog Try.f116.ntmps an116 (Try.f116.body.getD .skip) = some A116 := by kernel_rfl
structure H116 (D : Den) (σ : Sig) (F : Nat) : Prop where
  c53 : ∀ (x0 : (Int × (List (Int × Int)))) r, i_IsGraph F x0 = some r → D 53 [Enc.enc x0] = some (Enc.enc (r : Bool))
  g53 : σ 53 = some (0, false)
  c132 : ∀ (x0 : (List Int)) (x1 : Int) (x2 : Int) r, i_allWithin F x0 x1 x2 = some r → D 132 [Enc.enc x0, Enc.enc x1, Enc.enc x2] = some (Enc.enc (r : Bool))
  g132 : σ 132 = some (0, false)
abbrev R116 (r : Bool) : (Nat → V) → Prop := RR Try.prog [.tmp 4] 0 false (Enc.enc (r : Bool))
section
variable {D : Den} {σ : Sig} {F : Nat} {r : Bool}
def i_hasNodes (F : Nat) (g_1 : (Int × (List (Int × Int)))) (nodes_2 : (List Int)) : Option Bool :=
  (i_IsGraph F g_1).bind fun r_3 =>
  bif r_3 then
    (i_allWithin F nodes_2 0 (w64 (g_1.1 - 1))).bind fun r_4 =>
    some r_4
  else
    some false
theorem t116 (H : H116 D σ F) (g_1 : (Int × (List (Int × Int)))) (nodes_2 : (List Int)) (s : Nat → V) (hs : Facts [(0, (.agg [(.int .i64 g_1.1), (Enc.enc (g_1.2 : List (Int × Int)))])), (1, (Enc.enc (nodes_2 : List Int)))] s) (h : i_hasNodes F g_1 nodes_2 = some r) : Run D σ (R116 r) (.run A116 []) s := by
  unfold i_hasNodes at h
  obtain ⟨h0, h1⟩ := hs
  refine .seq ?_
  refine run_reg ?_
  refine e_clr ?_
  refine e_end ?_
  refine g_box (.agg [(.int .i64 g_1.1), (Enc.enc (g_1.2 : List (Int × Int)))]) (rd_of (keep_clear (s := s) (pk := [2]) h0 rfl (map_agg (maps_cons rfl (maps_cons (Enc.map_enc _ (g_1.2 : List (Int × Int))) maps_nil)))) rfl) (gone_clear (s := s) (pk := [2]) (t := 2) rfl) rfl ?_
  refine g_v0 (.bool false) rfl rfl ?_
  refine g_end ?_
  refine e_end ?_
  refine renew [(1, (Enc.enc (nodes_2 : List Int))), (2, (.ref (.bx 2) 0 [] (.agg [(.int .i64 g_1.1), (Enc.enc (g_1.2 : List (Int × Int)))]))), (4, (.bool false))] ⟨(keep_clear (s := s) (pk := [2]) h1 rfl (Enc.map_enc _ (nodes_2 : List Int))), rfl, rfl⟩ ?_
  rintro s ⟨h1, h2, h4⟩
  refine .nsq ?_
  refine .seq ?_
  refine run_reg ?_
  refine e_end ?_
  refine g_v1 (t := 2) (u := (.ref (.bx 2) 0 [] (.agg [(.int .i64 g_1.1), (Enc.enc (g_1.2 : List (Int × Int)))]))) (.agg [(.int .i64 g_1.1), (Enc.enc (g_1.2 : List (Int × Int)))]) h2 rfl rfl ?_
  obtain ⟨r_3, E_r_3, h⟩ := bind_some h
  refine g_call (m := 0) (al := false) (r := (Enc.enc (r_3 : Bool))) [Enc.enc (g_1 : (Int × (List (Int × Int))))] (ta_cons (v := (.agg [(.int .i64 g_1.1), (Enc.enc (g_1.2 : List (Int × Int)))])) rfl rfl (Enc.erase_enc (g_1 : (Int × (List (Int × Int))))) ta_nil) (H.c53 _ _ E_r_3) H.g53 rfl rfl rfl rfl ?_
  refine g_v1 (t := 6) (u := (.bool r_3)) (.bool r_3) rfl rfl rfl ?_
  refine split_on (c := r_3) h (fun hg3 h => ?_) (fun hg3 h => ?_)
  · refine g_yes (Eq.trans (b := .bool r_3) rfl (congrArg V.bool hg3)) (g_v1 (t := 1) (u := (Enc.enc (nodes_2 : List Int))) (Enc.enc (nodes_2 : List Int)) h1 rfl rfl ?_)
    refine g_yes (Eq.trans (b := .bool r_3) rfl (congrArg V.bool hg3)) (g_v1 (t := 2) (u := (.ref (.bx 2) 0 [] (.agg [(.int .i64 g_1.1), (Enc.enc (g_1.2 : List (Int × Int)))]))) (.ref (.bx 2) 0 [0] (.int .i64 g_1.1)) h2 rfl rfl ?_)
    refine g_yes (Eq.trans (b := .bool r_3) rfl (congrArg V.bool hg3)) (g_v1 (t := 9) (u := (.ref (.bx 2) 0 [0] (.int .i64 g_1.1))) (.int .i64 g_1.1) rfl rfl rfl ?_)
    refine g_yes (Eq.trans (b := .bool r_3) rfl (congrArg V.bool hg3)) (g_v1 (t := 10) (u := (.int .i64 g_1.1)) (.int .i64 (w64 (g_1.1 - 1))) rfl rfl rfl ?_)
    obtain ⟨r_4, E_r_4, h⟩ := bind_some h
    refine g_yes (Eq.trans (b := .bool r_3) rfl (congrArg V.bool hg3)) (g_call (m := 0) (al := false) (r := (Enc.enc (r_4 : Bool))) [Enc.enc (nodes_2 : (List Int)), Enc.enc (0 : Int), Enc.enc (w64 (g_1.1 - 1) : Int)] (ta_cons (v := (Enc.enc (nodes_2 : List Int))) rfl rfl (Enc.erase_enc (nodes_2 : (List Int))) (ta_cons (v := (.int .i64 0)) rfl rfl rfl (ta_cons (v := (.int .i64 (w64 (g_1.1 - 1)))) rfl rfl rfl ta_nil))) (H.c132 _ _ _ _ E_r_4) H.g132 rfl rfl rfl rfl ?_)
    refine g_v2 (t1 := 7) (t2 := 12) (u1 := (.bool true)) (u2 := (.bool r_4)) (.bool r_4) (Eq.trans (b := .bool r_3) rfl (congrArg V.bool hg3)) rfl rfl rfl ?_
    refine g_v1 (t := 13) (u := (.bool r_4)) (.bool r_4) rfl rfl rfl ?_
    refine g_end ?_
    refine e_end ?_
    refine renew [(4, (.bool r_4))] rfl ?_
    rintro s h4
    refine .nsq ?_
    refine .ret ?_
    have hr := Option.some.inj h
    subst hr
    exact rrA (res_tmp h4) rfl
  · refine g_no (Eq.trans (b := .bool r_3) rfl (congrArg V.bool hg3)) ?_
    refine g_no (Eq.trans (b := .bool r_3) rfl (congrArg V.bool hg3)) ?_
    refine g_no (Eq.trans (b := .bool r_3) rfl (congrArg V.bool hg3)) ?_
    refine g_no (Eq.trans (b := .bool r_3) rfl (congrArg V.bool hg3)) ?_
    refine g_no (Eq.trans (b := .bool r_3) rfl (congrArg V.bool hg3)) ?_
    refine g_v2 (t1 := 7) (t2 := 12) (u1 := (.bool false)) (u2 := (.tup [])) (.bool false) (Eq.trans (b := .bool r_3) rfl (congrArg V.bool hg3)) rfl rfl rfl ?_
    refine g_v1 (t := 13) (u := (.bool false)) (.bool false) rfl rfl rfl ?_
    refine g_end ?_
    refine e_end ?_
    refine renew [(4, (.bool false))] rfl ?_
    rintro s h4
    refine .nsq ?_
    refine .ret ?_
    have hr := Option.some.inj h
    subst hr
    exact rrA (res_tmp h4) rfl
end
def e116 (F : Nat) : Ent := ⟨116, da (fun (x : ((Int × (List (Int × Int))) × (List Int) × Unit)) => i_hasNodes F x.1 x.2.1) (fun (r : Bool) => (Enc.enc (r : Bool))), 0, false, selF []⟩
theorem p116 {F : Nat} {x0 : (Int × (List (Int × Int)))} {x1 : (List Int)} {r : Bool} (h : i_hasNodes F x0 x1 = some r) : (e116 F).den [Enc.enc x0, Enc.enc x1] = some (Enc.enc (r : Bool)) := da_put (f := fun (x : ((Int × (List (Int × Int))) × (List Int) × Unit)) => i_hasNodes F x.1 x.2.1) (t := fun (r : Bool) => (Enc.enc (r : Bool))) (x0, x1, ()) h
theorem o116 {D : Den} {σ : Sig} {F : Nat} (hF : Fits2 Try.prog D σ) (H : H116 D σ F) : (e116 F).Ok Try.prog := by
  refine ⟨fun args r h => ?_, ⟨Try.f116, Try.func116, rfl, rfl⟩⟩
  obtain ⟨⟨x0, x1, _⟩, y, rfl, hy, rfl⟩ := da_open h
  exact contract_run hF (by kernel_rfl) Try.func116 rfl c116 (show 2 ≤ Try.f116.ntmps by decide) (t116 H x0 x1 _ ⟨rfl, rfl⟩ hy)
/- loop.example/g01109/impl.increasing -/
def A117_2 : AC := (AC.cond (O.t 7) AC.skip (AC.exit 0))
def A117_4 : AC := (AC.cond (O.t 19) (AC.seq (AC.reg [] [(I.mk (some 2) none false (X.v (A.mov (O.k (V.bool false)))))] []) AC.ret) AC.skip)
def A117_5 : AC := (AC.reg [] [(I.mk (some 8) none false (X.v (A.mov (O.t 3)))), (I.mk (some 9) none false (X.v (A.bin BinOp.add (O.t 8) (O.k (V.int IntKind.i64 (Int.ofNat 1)))))), (I.mk (some 3) none false (X.v (A.mov (O.t 9))))] [])
def A117_3 : AC := (AC.seq (AC.block 1 (AC.seq (AC.reg [] [(I.mk (some 10) none false (X.v (A.mov (O.t 0)))), (I.mk (some 11) none false (X.v (A.mov (O.t 3)))), (I.mk (some 12) none false (X.v (A.bin BinOp.sub (O.t 11) (O.k (V.int IntKind.i64 (Int.ofNat 1)))))), (I.mk (some 13) none false (X.v (A.idx (O.t 10) (O.t 12) 1))), (I.mk (some 14) none false (X.v (A.load Sh.s (O.t 13)))), (I.mk (some 15) none false (X.v (A.mov (O.t 0)))), (I.mk (some 16) none false (X.v (A.mov (O.t 3)))), (I.mk (some 17) none false (X.v (A.idx (O.t 15) (O.t 16) 1))), (I.mk (some 18) none false (X.v (A.load Sh.s (O.t 17)))), (I.mk (some 19) none false (X.v (A.bin BinOp.geq (O.t 14) (O.t 18))))] []) A117_4)) A117_5)
def A117_1 : AC := (AC.seq (AC.seq (AC.reg [] [(I.mk (some 4) none false (X.v (A.mov (O.t 3)))), (I.mk (some 5) none false (X.v (A.mov (O.t 0)))), (I.mk (some 6) none false (X.v (A.len (O.t 5)))), (I.mk (some 7) none false (X.v (A.bin BinOp.lss (O.t 4) (O.t 6))))] []) A117_2) A117_3)
def A117_6 : AC := (AC.seq (AC.reg [] [(I.mk (some 2) none false (X.v (A.mov (O.k (V.bool true)))))] []) AC.ret)
def A117_8 : AC := (AC.block 0 (AC.loop A117_1))
def A117_7 : AC := (AC.seq (AC.seq (AC.reg [] [(I.mk (some 3) none false (X.v (A.mov (O.k (V.int IntKind.i64 (Int.ofNat 1))))))] []) A117_8) A117_6)
def A117 : AC := (AC.seq (AC.reg [] [(I.mk (some 2) none false (X.v (A.mov (O.k (V.bool false)))))] []) A117_7)
def an117 : List An := []
theorem c117 : cC Try.prog Try.f117.ntmps an117 (Try.f117.body.getD .skip) = some A117 := by kernel_rfl
structure H117 (D : Den) (σ : Sig) (F : Nat) : Prop where
  mk ::
abbrev R117 (r : Bool) : (Nat → V) → Prop := RR Try.prog [.tmp 2] 0 false (Enc.enc (r : Bool))
section
variable {D : Den} {σ : Sig} {F : Nat} {r : Bool}
def i_increasing_l1 (F : Nat) (list_1 : (List Int))  : Nat → Int → Option Bool
  | 0, _ => none
  | k + 1, i_4 =>
    bif decide (i_4 < (list_1.length : Int)) then
      (idx list_1 (w64 (i_4 - 1))).bind fun e_7 =>
      (idx list_1 i_4).bind fun e_8 =>
      bif decide (e_7 ≥ e_8) then
        some false
      else
        (i_increasing_l1 F list_1 k) (w64 (i_4 + 1))
    else
      some true
theorem t_f117_l1 (H : H117 D σ F) (list_1 : (List Int))  : ∀ (k : Nat) (i_4 : Int) (s : Nat → V), Facts [(0, (Enc.enc (list_1 : List Int))), (2, (.bool false)), (3, (.int .i64 i_4))] s → i_increasing_l1 F list_1 k i_4 = some r → Run D σ (R117 r) (.run A117_1 [.lp A117_1, .bk 0, .sq A117_6]) s := by
  intro k
  induction k with
  | zero => intro i_4 s _ h; exact nomatch (h : (none : Option _) = some r)
  | succ k ih =>
    intro i_4 s hs h
    rw [i_increasing_l1] at h
    obtain ⟨h0, h2, h3⟩ := hs
    refine .seq ?_
    refine .seq ?_
    refine run_reg ?_
    refine e_end ?_
    refine g_v1 (t := 3) (u := (.int .i64 i_4)) (.int .i64 i_4) h3 rfl rfl ?_
    refine g_v1 (t := 0) (u := (Enc.enc (list_1 : List Int))) (Enc.enc (list_1 : List Int)) h0 rfl rfl ?_
    refine g_v (.int .i64 (list_1.length : Int)) (ev_len (xs := list_1) rfl) ?_
    refine g_v2 (t1 := 4) (t2 := 6) (u1 := (.int .i64 i_4)) (u2 := (.int .i64 (list_1.length : Int))) (.bool (decide (i_4 < (list_1.length : Int)))) rfl rfl rfl rfl ?_
    refine g_end ?_
    refine e_end ?_
    refine renew [(0, (Enc.enc (list_1 : List Int))), (2, (.bool false)), (3, (.int .i64 i_4)), (7, (.bool (decide (i_4 < (list_1.length : Int)))))] ⟨h0, h2, h3, rfl⟩ ?_
    rintro s ⟨h0, h2, h3, h7⟩
    refine .nsq ?_
    refine run_cond (t := decide (i_4 < (list_1.length : Int))) h7 h (fun h => ?_) (fun h => ?_)
    · refine .skip ?_
      refine .nsq ?_
      refine .seq ?_
      refine .block ?_
      refine .seq ?_
      refine run_reg ?_
      refine e_end ?_
      refine g_v1 (t := 0) (u := (Enc.enc (list_1 : List Int))) (Enc.enc (list_1 : List Int)) h0 rfl rfl ?_
      refine g_v1 (t := 3) (u := (.int .i64 i_4)) (.int .i64 i_4) h3 rfl rfl ?_
      refine g_v1 (t := 11) (u := (.int .i64 i_4)) (.int .i64 (w64 (i_4 - 1))) rfl rfl rfl ?_
      obtain ⟨e_7, E_e_7, h⟩ := bind_some h
      refine g_v (.ref .sh 0 [] (.int .i64 e_7)) (ev_idx (t := .sh) (lo := 0) (xs := list_1) rfl rfl E_e_7 rfl rfl) ?_
      refine g_v1 (t := 13) (u := (.ref .sh 0 [] (.int .i64 e_7))) (.int .i64 e_7) rfl rfl rfl ?_
      refine g_v1 (t := 0) (u := (Enc.enc (list_1 : List Int))) (Enc.enc (list_1 : List Int)) h0 rfl rfl ?_
      refine g_v1 (t := 3) (u := (.int .i64 i_4)) (.int .i64 i_4) h3 rfl rfl ?_
      obtain ⟨e_8, E_e_8, h⟩ := bind_some h
      refine g_v (.ref .sh 0 [] (.int .i64 e_8)) (ev_idx (t := .sh) (lo := 0) (xs := list_1) rfl rfl E_e_8 rfl rfl) ?_
      refine g_v1 (t := 17) (u := (.ref .sh 0 [] (.int .i64 e_8))) (.int .i64 e_8) rfl rfl rfl ?_
      refine g_v2 (t1 := 14) (t2 := 18) (u1 := (.int .i64 e_7)) (u2 := (.int .i64 e_8)) (.bool (decide (e_7 ≥ e_8))) rfl rfl rfl rfl ?_
      refine g_end ?_
      refine e_end ?_
      refine renew [(0, (Enc.enc (list_1 : List Int))), (2, (.bool false)), (3, (.int .i64 i_4)), (19, (.bool (decide (e_7 ≥ e_8))))] ⟨h0, h2, h3, rfl⟩ ?_
      rintro s ⟨h0, h2, h3, h19⟩
      refine .nsq ?_
      refine run_cond (t := decide (e_7 ≥ e_8)) h19 h (fun h => ?_) (fun h => ?_)
      · refine .seq ?_
        refine run_reg ?_
        refine e_end ?_
        refine g_v0 (.bool false) rfl rfl ?_
        refine g_end ?_
        refine e_end ?_
        refine renew [(0, (Enc.enc (list_1 : List Int))), (2, (.bool false)), (3, (.int .i64 i_4))] ⟨h0, rfl, h3⟩ ?_
        rintro s ⟨h0, h2, h3⟩
        refine .nsq ?_
        refine .ret ?_
        have hr := Option.some.inj h
        subst hr
        exact rrA (res_tmp h2) rfl
      · refine .skip ?_
        refine .nbk ?_
        refine .nsq ?_
        refine run_reg ?_
        refine e_end ?_
        refine g_v1 (t := 3) (u := (.int .i64 i_4)) (.int .i64 i_4) h3 rfl rfl ?_
        refine g_v1 (t := 8) (u := (.int .i64 i_4)) (.int .i64 (w64 (i_4 + 1))) rfl rfl rfl ?_
        refine g_v1 (t := 9) (u := (.int .i64 (w64 (i_4 + 1)))) (.int .i64 (w64 (i_4 + 1))) rfl rfl rfl ?_
        refine g_end ?_
        refine e_end ?_
        refine renew [(0, (Enc.enc (list_1 : List Int))), (2, (.bool false)), (3, (.int .i64 (w64 (i_4 + 1))))] ⟨h0, h2, rfl⟩ ?_
        rintro s ⟨h0, h2, h3⟩
        refine .nlp ?_
        exact ih (w64 (i_4 + 1)) _ ⟨h0, h2, h3⟩ h
    · refine .exit ?_
      refine .esq ?_
      refine .elp ?_
      refine .ebk ?_
      refine .nsq ?_
      refine .seq ?_
      refine run_reg ?_
      refine e_end ?_
      refine g_v0 (.bool true) rfl rfl ?_
      refine g_end ?_
      refine e_end ?_
      refine renew [(2, (.bool true))] rfl ?_
      rintro s h2
      refine .nsq ?_
      refine .ret ?_
      have hr := Option.some.inj h
      subst hr
      exact rrA (res_tmp h2) rfl
def i_increasing (F : Nat) (list_1 : (List Int)) : Option Bool :=
  i_increasing_l1 F list_1 F 1
theorem t117 (H : H117 D σ F) (list_1 : (List Int)) (s : Nat → V) (hs : Facts [(0, (Enc.enc (list_1 : List Int)))] s) (h : i_increasing F list_1 = some r) : Run D σ (R117 r) (.run A117 []) s := by
  unfold i_increasing at h
  have h0 := hs
  refine .seq ?_
  refine run_reg ?_
  refine e_end ?_
  refine g_v0 (.bool false) rfl rfl ?_
  refine g_end ?_
  refine e_end ?_
  refine renew [(0, (Enc.enc (list_1 : List Int))), (2, (.bool false))] ⟨h0, rfl⟩ ?_
  rintro s ⟨h0, h2⟩
  refine .nsq ?_
  refine .seq ?_
  refine .seq ?_
  refine run_reg ?_
  refine e_end ?_
  refine g_v0 (.int .i64 1) rfl rfl ?_
  refine g_end ?_
  refine e_end ?_
  refine renew [(0, (Enc.enc (list_1 : List Int))), (2, (.bool false)), (3, (.int .i64 1))] ⟨h0, h2, rfl⟩ ?_
  rintro s ⟨h0, h2, h3⟩
  refine .nsq ?_
  refine .block ?_
  refine .loop ?_
  exact t_f117_l1 H list_1 F 1 _ ⟨h0, h2, h3⟩ h
end
def e117 (F : Nat) : Ent := ⟨117, da (fun (x : ((List Int) × Unit)) => i_increasing F x.1) (fun (r : Bool) => (Enc.enc (r : Bool))), 0, false, selF []⟩
theorem p117 {F : Nat} {x0 : (List Int)} {r : Bool} (h : i_increasing F x0 = some r) : (e117 F).den [Enc.enc x0] = some (Enc.enc (r : Bool)) := da_put (f := fun (x : ((List Int) × Unit)) => i_increasing F x.1) (t := fun (r : Bool) => (Enc.enc (r : Bool))) (x0, ()) h
theorem o117 {D : Den} {σ : Sig} {F : Nat} (hF : Fits2 Try.prog D σ) (H : H117 D σ F) : (e117 F).Ok Try.prog := by
  refine ⟨fun args r h => ?_, ⟨Try.f117, Try.func117, rfl, rfl⟩⟩
  obtain ⟨⟨x0, _⟩, y, rfl, hy, rfl⟩ := da_open h
  exact contract_run hF (by kernel_rfl) Try.func117 rfl c117 (show 1 ≤ Try.f117.ntmps by decide) (t117 H x0 _ rfl hy)
/- loop.example/g01109/impl.isSet -/
def A84_1 : AC := (AC.seq (AC.reg [] [(I.mk (some 5) none false (X.v (A.load (Sh.ag [Sh.s, Sh.p]) (O.t 2)))), (I.mk (some 6) none false (X.v (A.mov (O.t 1)))), (I.mk (some 7) none false (X.call (O.k (V.fn 116 [] [])) [(O.t 5), (O.t 6)])), (I.mk (some 8) none false (X.v (A.mov (O.t 7)))), (I.mk (some 9) (some (8, true)) false (X.v (A.mov (O.t 1)))), (I.mk (some 10) (some (8, true)) false (X.call (O.k (V.fn 117 [] [])) [(O.t 9)])), (I.mk (some 11) none false (X.v (A.pick (O.t 8) (O.t 10) (O.k (V.bool false))))), (I.mk (some 4) none false (X.v (A.mov (O.t 11))))] []) AC.ret)
def A84 : AC := (AC.seq (AC.reg [.clr [2]] [(I.mk (some 2) none false (X.box (O.t 0))), (I.mk (some 4) none false (X.v (A.mov (O.k (V.bool false)))))] []) A84_1)
def an84 : List An := [{ id := 0, pre := [.clr [2]], ep := [], lin := [], sp := [] }]
theorem c84 : cC Try.prog Try.f84.ntmps an84 (Try.f84.body.getD .skip) = some A84 := by kernel_rfl
structure H84 (D : Den) (σ : Sig) (F : Nat) : Prop where
  c116 : ∀ (x0 : (Int × (List (Int × Int)))) (x1 : (List Int)) r, i_hasNodes F x0 x1 = some r → D 116 [Enc.enc x0, Enc.enc x1] = some (Enc.enc (r : Bool))
  g116 : σ 116 = some (0, false)
  c117 : ∀ (x0 : (List Int)) r, i_increasing F x0 = some r → D 117 [Enc.enc x0] = some (Enc.enc (r : Bool))
  g117 : σ 117 = some (0, false)
abbrev R84 (r : Bool) : (Nat → V) → Prop := RR Try.prog [.tmp 4] 0 false (Enc.enc (r : Bool))
section
variable {D : Den} {σ : Sig} {F : Nat} {r : Bool}
def i_isSet (F : Nat) (g_1 : (Int × (List (Int × Int)))) (set_2 : (List Int)) : Option Bool :=
  (i_hasNodes F g_1 set_2).bind fun r_3 =>
  bif r_3 then
    (i_increasing F set_2).bind fun r_4 =>
    some r_4
  else
    some false
theorem t84 (H : H84 D σ F) (g_1 : (Int × (List (Int × Int)))) (set_2 : (List Int)) (s : Nat → V) (hs : Facts [(0, (.agg [(.int .i64 g_1.1), (Enc.enc (g_1.2 : List (Int × Int)))])), (1, (Enc.enc (set_2 : List Int)))] s) (h : i_isSet F g_1 set_2 = some r) : Run D σ (R84 r) (.run A84 []) s := by
  unfold i_isSet at h
  obtain ⟨h0, h1⟩ := hs
  refine .seq ?_
  refine run_reg ?_
  refine e_clr ?_
  refine e_end ?_
  refine g_box (.agg [(.int .i64 g_1.1), (Enc.enc (g_1.2 : List (Int × Int)))]) (rd_of (keep_clear (s := s) (pk := [2]) h0 rfl (map_agg (maps_cons rfl (maps_cons (Enc.map_enc _ (g_1.2 : List (Int × Int))) maps_nil)))) rfl) (gone_clear (s := s) (pk := [2]) (t := 2) rfl) rfl ?_
  refine g_v0 (.bool false) rfl rfl ?_
  refine g_end ?_
  refine e_end ?_
  refine renew [(1, (Enc.enc (set_2 : List Int))), (2, (.ref (.bx 2) 0 [] (.agg [(.int .i64 g_1.1), (Enc.enc (g_1.2 : List (Int × Int)))]))), (4, (.bool false))] ⟨(keep_clear (s := s) (pk := [2]) h1 rfl (Enc.map_enc _ (set_2 : List Int))), rfl, rfl⟩ ?_
  rintro s ⟨h1, h2, h4⟩
  refine .nsq ?_
  refine .seq ?_
  refine run_reg ?_
  refine e_end ?_
  refine g_v1 (t := 2) (u := (.ref (.bx 2) 0 [] (.agg [(.int .i64 g_1.1), (Enc.enc (g_1.2 : List (Int × Int)))]))) (.agg [(.int .i64 g_1.1), (Enc.enc (g_1.2 : List (Int × Int)))]) h2 rfl rfl ?_
  refine g_v1 (t := 1) (u := (Enc.enc (set_2 : List Int))) (Enc.enc (set_2 : List Int)) h1 rfl rfl ?_
  obtain ⟨r_3, E_r_3, h⟩ := bind_some h
  refine g_call (m := 0) (al := false) (r := (Enc.enc (r_3 : Bool))) [Enc.enc (g_1 : (Int × (List (Int × Int)))), Enc.enc (set_2 : (List Int))] (ta_cons (v := (.agg [(.int .i64 g_1.1), (Enc.enc (g_1.2 : List (Int × Int)))])) rfl rfl (Enc.erase_enc (g_1 : (Int × (List (Int × Int))))) (ta_cons (v := (Enc.enc (set_2 : List Int))) rfl rfl (Enc.erase_enc (set_2 : (List Int))) ta_nil)) (H.c116 _ _ _ E_r_3) H.g116 rfl rfl rfl rfl ?_
  refine g_v1 (t := 7) (u := (.bool r_3)) (.bool r_3) rfl rfl rfl ?_
  refine split_on (c := r_3) h (fun hg4 h => ?_) (fun hg4 h => ?_)
  · refine g_yes (Eq.trans (b := .bool r_3) rfl (congrArg V.bool hg4)) (g_v1 (t := 1) (u := (Enc.enc (set_2 : List Int))) (Enc.enc (set_2 : List Int)) h1 rfl rfl ?_)
    obtain ⟨r_4, E_r_4, h⟩ := bind_some h
    refine g_yes (Eq.trans (b := .bool r_3) rfl (congrArg V.bool hg4)) (g_call (m := 0) (al := false) (r := (Enc.enc (r_4 : Bool))) [Enc.enc (set_2 : (List Int))] (ta_cons (v := (Enc.enc (set_2 : List Int))) rfl rfl (Enc.erase_enc (set_2 : (List Int))) ta_nil) (H.c117 _ _ E_r_4) H.g117 rfl rfl rfl rfl ?_)
    refine g_v2 (t1 := 8) (t2 := 10) (u1 := (.bool true)) (u2 := (.bool r_4)) (.bool r_4) (Eq.trans (b := .bool r_3) rfl (congrArg V.bool hg4)) rfl rfl rfl ?_
    refine g_v1 (t := 11) (u := (.bool r_4)) (.bool r_4) rfl rfl rfl ?_
    refine g_end ?_
    refine e_end ?_
    refine renew [(4, (.bool r_4))] rfl ?_
    rintro s h4
    refine .nsq ?_
    refine .ret ?_
    have hr := Option.some.inj h
    subst hr
    exact rrA (res_tmp h4) rfl
  · refine g_no (Eq.trans (b := .bool r_3) rfl (congrArg V.bool hg4)) ?_
    refine g_no (Eq.trans (b := .bool r_3) rfl (congrArg V.bool hg4)) ?_
    refine g_v2 (t1 := 8) (t2 := 10) (u1 := (.bool false)) (u2 := (.tup [])) (.bool false) (Eq.trans (b := .bool r_3) rfl (congrArg V.bool hg4)) rfl rfl rfl ?_
    refine g_v1 (t := 11) (u := (.bool false)) (.bool false) rfl rfl rfl ?_
    refine g_end ?_
    refine e_end ?_
    refine renew [(4, (.bool false))] rfl ?_
    rintro s h4
    refine .nsq ?_
    refine .ret ?_
    have hr := Option.some.inj h
    subst hr
    exact rrA (res_tmp h4) rfl
end
def e84 (F : Nat) : Ent := ⟨84, da (fun (x : ((Int × (List (Int × Int))) × (List Int) × Unit)) => i_isSet F x.1 x.2.1) (fun (r : Bool) => (Enc.enc (r : Bool))), 0, false, selF []⟩
theorem p84 {F : Nat} {x0 : (Int × (List (Int × Int)))} {x1 : (List Int)} {r : Bool} (h : i_isSet F x0 x1 = some r) : (e84 F).den [Enc.enc x0, Enc.enc x1] = some (Enc.enc (r : Bool)) := da_put (f := fun (x : ((Int × (List (Int × Int))) × (List Int) × Unit)) => i_isSet F x.1 x.2.1) (t := fun (r : Bool) => (Enc.enc (r : Bool))) (x0, x1, ()) h
theorem o84 {D : Den} {σ : Sig} {F : Nat} (hF : Fits2 Try.prog D σ) (H : H84 D σ F) : (e84 F).Ok Try.prog := by
  refine ⟨fun args r h => ?_, ⟨Try.f84, Try.func84, rfl, rfl⟩⟩
  obtain ⟨⟨x0, x1, _⟩, y, rfl, hy, rfl⟩ := da_open h
  exact contract_run hF (by kernel_rfl) Try.func84 rfl c84 (show 2 ≤ Try.f84.ntmps by decide) (t84 H x0 x1 _ ⟨rfl, rfl⟩ hy)
/- loop.example/g01109/impl.maskOf -/
def A93_4 : AC := (AC.reg [] [(I.mk (some 12) none false (X.v (A.mov (O.t 3)))), (I.mk (some 13) none false (X.v (A.mov (O.t 5)))), (I.mk (some 14) none false (X.v (A.bin BinOp.shl (O.k (V.int IntKind.i64 (Int.ofNat 1))) (O.t 13)))), (I.mk (some 15) none false (X.v (A.bin BinOp.or (O.t 12) (O.t 14)))), (I.mk (some 3) none false (X.v (A.mov (O.t 15))))] [])
def A93_5 : AC := (AC.reg [] [(I.mk (some 16) none false (X.v (A.bin BinOp.add (O.t 8) (O.k (V.int IntKind.i64 (Int.ofNat 1)))))), (I.mk (some 8) none false (X.v (A.mov (O.t 16))))] [])
def A93_3 : AC := (AC.seq (AC.block 1 (AC.seq (AC.reg [] [(I.mk (some 10) none false (X.v (A.idx (O.t 6) (O.t 8) 1))), (I.mk (some 11) none false (X.v (A.load Sh.s (O.t 10)))), (I.mk (some 5) none false (X.v (A.mov (O.t 11))))] []) A93_4)) A93_5)
def A93_2 : AC := (AC.seq (AC.cond (O.t 9) AC.skip (AC.exit 0)) A93_3)
def A93_1 : AC := (AC.seq (AC.reg [] [(I.mk (some 9) none false (X.v (A.bin BinOp.lss (O.t 8) (O.t 7))))] []) A93_2)
def A93_6 : AC := (AC.seq (AC.reg [] [(I.mk (some 17) none false (X.v (A.mov (O.t 3)))), (I.mk (some 2) none false (X.v (A.mov (O.t 17))))] []) AC.ret)
def A93_9 : AC := (AC.block 0 (AC.loop A93_1))
def A93_8 : AC := (AC.seq (AC.seq (AC.reg [] [(I.mk (some 6) none false (X.v (A.mov (O.t 0)))), (I.mk (some 7) none false (X.v (A.len (O.t 6)))), (I.mk (some 8) none false (X.v (A.mov (O.k (V.int IntKind.i64 (Int.ofNat 0))))))] []) A93_9) A93_6)
def A93_7 : AC := (AC.seq (AC.reg [] [(I.mk (some 3) none false (X.v (A.mov (O.k (V.int IntKind.i64 (Int.ofNat 0))))))] []) A93_8)
def A93 : AC := (AC.seq (AC.reg [] [(I.mk (some 2) none false (X.v (A.mov (O.k (V.int IntKind.i64 (Int.ofNat 0))))))] []) A93_7)
def an93 : List An := []
theorem c93 : cC Try.prog Try.f93.ntmps an93 (Try.f93.body.getD .skip) = some A93 := by kernel_rfl
structure H93 (D : Den) (σ : Sig) (F : Nat) : Prop where
  mk ::
abbrev R93 (r : Int) : (Nat → V) → Prop := RR Try.prog [.tmp 2] 0 false (Enc.enc (r : Int))
section
variable {D : Den} {σ : Sig} {F : Nat} {r : Int}
def i_maskOf_l1 (F : Nat) (list_1 : (List Int))  : Nat → Int → Int → Option Int
  | 0, _, _ => none
  | k + 1, set_4, t8_5 =>
    bif decide (t8_5 < (list_1.length : Int)) then
      (idx list_1 t8_5).bind fun e_8 =>
      (shlI .i64 1 e_8).bind fun q_9 =>
      (i_maskOf_l1 F list_1 k) (ior .i64 set_4 q_9) (w64 (t8_5 + 1))
    else
      some set_4
theorem t_f93_l1 (H : H93 D σ F) (list_1 : (List Int))  : ∀ (k : Nat) (set_4 : Int) (t8_5 : Int) (s : Nat → V), Facts [(2, (.int .i64 0)), (3, (.int .i64 set_4)), (6, (Enc.enc (list_1 : List Int))), (7, (.int .i64 (list_1.length : Int))), (8, (.int .i64 t8_5))] s → i_maskOf_l1 F list_1 k set_4 t8_5 = some r → Run D σ (R93 r) (.run A93_1 [.lp A93_1, .bk 0, .sq A93_6]) s := by
  intro k
  induction k with
  | zero => intro set_4 t8_5 s _ h; exact nomatch (h : (none : Option _) = some r)
  | succ k ih =>
    intro set_4 t8_5 s hs h
    rw [i_maskOf_l1] at h
    obtain ⟨h2, h3, h6, h7, h8⟩ := hs
    refine .seq ?_
    refine run_reg ?_
    refine e_end ?_
    refine g_v2 (t1 := 8) (t2 := 7) (u1 := (.int .i64 t8_5)) (u2 := (.int .i64 (list_1.length : Int))) (.bool (decide (t8_5 < (list_1.length : Int)))) h8 h7 rfl rfl ?_
    refine g_end ?_
    refine e_end ?_
    refine renew [(2, (.int .i64 0)), (3, (.int .i64 set_4)), (6, (Enc.enc (list_1 : List Int))), (7, (.int .i64 (list_1.length : Int))), (8, (.int .i64 t8_5)), (9, (.bool (decide (t8_5 < (list_1.length : Int)))))] ⟨h2, h3, h6, h7, h8, rfl⟩ ?_
    rintro s ⟨h2, h3, h6, h7, h8, h9⟩
    refine .nsq ?_
    refine .seq ?_
    refine run_cond (t := decide (t8_5 < (list_1.length : Int))) h9 h (fun h => ?_) (fun h => ?_)
    · refine .skip ?_
      refine .nsq ?_
      refine .seq ?_
      refine .block ?_
      refine .seq ?_
      refine run_reg ?_
      refine e_end ?_
      obtain ⟨e_8, E_e_8, h⟩ := bind_some h
      refine g_v (.ref .sh 0 [] (.int .i64 e_8)) (ev_idx (t := .sh) (lo := 0) (xs := list_1) h6 h8 E_e_8 rfl rfl) ?_
      refine g_v1 (t := 10) (u := (.ref .sh 0 [] (.int .i64 e_8))) (.int .i64 e_8) rfl rfl rfl ?_
      refine g_v1 (t := 11) (u := (.int .i64 e_8)) (.int .i64 e_8) rfl rfl rfl ?_
      refine g_end ?_
      refine e_end ?_
      refine renew [(2, (.int .i64 0)), (3, (.int .i64 set_4)), (5, (.int .i64 e_8)), (6, (Enc.enc (list_1 : List Int))), (7, (.int .i64 (list_1.length : Int))), (8, (.int .i64 t8_5))] ⟨h2, h3, rfl, h6, h7, h8⟩ ?_
      rintro s ⟨h2, h3, h5, h6, h7, h8⟩
      refine .nsq ?_
      refine run_reg ?_
      refine e_end ?_
      refine g_v1 (t := 3) (u := (.int .i64 set_4)) (.int .i64 set_4) h3 rfl rfl ?_
      refine g_v1 (t := 5) (u := (.int .i64 e_8)) (.int .i64 e_8) h5 rfl rfl ?_
      obtain ⟨q_9, E_q_9, h⟩ := bind_some h
      refine g_v (.int .i64 q_9) (ev_shl rfl rfl E_q_9) ?_
      refine g_v2 (t1 := 12) (t2 := 14) (u1 := (.int .i64 set_4)) (u2 := (.int .i64 q_9)) (.int .i64 (ior .i64 set_4 q_9)) rfl rfl rfl rfl ?_
      refine g_v1 (t := 15) (u := (.int .i64 (ior .i64 set_4 q_9))) (.int .i64 (ior .i64 set_4 q_9)) rfl rfl rfl ?_
      refine g_end ?_
      refine e_end ?_
      refine renew [(2, (.int .i64 0)), (3, (.int .i64 (ior .i64 set_4 q_9))), (6, (Enc.enc (list_1 : List Int))), (7, (.int .i64 (list_1.length : Int))), (8, (.int .i64 t8_5))] ⟨h2, rfl, h6, h7, h8⟩ ?_
      rintro s ⟨h2, h3, h6, h7, h8⟩
      refine .nbk ?_
      refine .nsq ?_
      refine run_reg ?_
      refine e_end ?_
      refine g_v1 (t := 8) (u := (.int .i64 t8_5)) (.int .i64 (w64 (t8_5 + 1))) h8 rfl rfl ?_
      refine g_v1 (t := 16) (u := (.int .i64 (w64 (t8_5 + 1)))) (.int .i64 (w64 (t8_5 + 1))) rfl rfl rfl ?_
      refine g_end ?_
      refine e_end ?_
      refine renew [(2, (.int .i64 0)), (3, (.int .i64 (ior .i64 set_4 q_9))), (6, (Enc.enc (list_1 : List Int))), (7, (.int .i64 (list_1.length : Int))), (8, (.int .i64 (w64 (t8_5 + 1))))] ⟨h2, h3, h6, h7, rfl⟩ ?_
      rintro s ⟨h2, h3, h6, h7, h8⟩
      refine .nlp ?_
      exact ih (ior .i64 set_4 q_9) (w64 (t8_5 + 1)) _ ⟨h2, h3, h6, h7, h8⟩ h
    · refine .exit ?_
      refine .esq ?_
      refine .elp ?_
      refine .ebk ?_
      refine .nsq ?_
      refine .seq ?_
      refine run_reg ?_
      refine e_end ?_
      refine g_v1 (t := 3) (u := (.int .i64 set_4)) (.int .i64 set_4) h3 rfl rfl ?_
      refine g_v1 (t := 17) (u := (.int .i64 set_4)) (.int .i64 set_4) rfl rfl rfl ?_
      refine g_end ?_
      refine e_end ?_
      refine renew [(2, (.int .i64 set_4))] rfl ?_
      rintro s h2
      refine .nsq ?_
      refine .ret ?_
      have hr := Option.some.inj h
      subst hr
      exact rrA (res_tmp h2) rfl
def i_maskOf (F : Nat) (list_1 : (List Int)) : Option Int :=
  i_maskOf_l1 F list_1 F 0 0
theorem t93 (H : H93 D σ F) (list_1 : (List Int)) (s : Nat → V) (hs : Facts [(0, (Enc.enc (list_1 : List Int)))] s) (h : i_maskOf F list_1 = some r) : Run D σ (R93 r) (.run A93 []) s := by
  unfold i_maskOf at h
  have h0 := hs
  refine .seq ?_
  refine run_reg ?_
  refine e_end ?_
  refine g_v0 (.int .i64 0) rfl rfl ?_
  refine g_end ?_
  refine e_end ?_
  refine renew [(0, (Enc.enc (list_1 : List Int))), (2, (.int .i64 0))] ⟨h0, rfl⟩ ?_
  rintro s ⟨h0, h2⟩
  refine .nsq ?_
  refine .seq ?_
  refine run_reg ?_
  refine e_end ?_
  refine g_v0 (.int .i64 0) rfl rfl ?_
  refine g_end ?_
  refine e_end ?_
  refine renew [(0, (Enc.enc (list_1 : List Int))), (2, (.int .i64 0)), (3, (.int .i64 0))] ⟨h0, h2, rfl⟩ ?_
  rintro s ⟨h0, h2, h3⟩
  refine .nsq ?_
  refine .seq ?_
  refine .seq ?_
  refine run_reg ?_
  refine e_end ?_
  refine g_v1 (t := 0) (u := (Enc.enc (list_1 : List Int))) (Enc.enc (list_1 : List Int)) h0 rfl rfl ?_
  refine g_v (.int .i64 (list_1.length : Int)) (ev_len (xs := list_1) rfl) ?_
  refine g_v0 (.int .i64 0) rfl rfl ?_
  refine g_end ?_
  refine e_end ?_
  refine renew [(2, (.int .i64 0)), (3, (.int .i64 0)), (6, (Enc.enc (list_1 : List Int))), (7, (.int .i64 (list_1.length : Int))), (8, (.int .i64 0))] ⟨h2, h3, rfl, rfl, rfl⟩ ?_
  rintro s ⟨h2, h3, h6, h7, h8⟩
  refine .nsq ?_
  refine .block ?_
  refine .loop ?_
  exact t_f93_l1 H list_1 F 0 0 _ ⟨h2, h3, h6, h7, h8⟩ h
end
def e93 (F : Nat) : Ent := ⟨93, da (fun (x : ((List Int) × Unit)) => i_maskOf F x.1) (fun (r : Int) => (Enc.enc (r : Int))), 0, false, selF []⟩
theorem p93 {F : Nat} {x0 : (List Int)} {r : Int} (h : i_maskOf F x0 = some r) : (e93 F).den [Enc.enc x0] = some (Enc.enc (r : Int)) := da_put (f := fun (x : ((List Int) × Unit)) => i_maskOf F x.1) (t := fun (r : Int) => (Enc.enc (r : Int))) (x0, ()) h
theorem o93 {D : Den} {σ : Sig} {F : Nat} (hF : Fits2 Try.prog D σ) (H : H93 D σ F) : (e93 F).Ok Try.prog := by
  refine ⟨fun args r h => ?_, ⟨Try.f93, Try.func93, rfl, rfl⟩⟩
  obtain ⟨⟨x0, _⟩, y, rfl, hy, rfl⟩ := da_open h
  exact contract_run hF (by kernel_rfl) Try.func93 rfl c93 (show 1 ≤ Try.f93.ntmps by decide) (t93 H x0 _ rfl hy)
/- (loop.example/g01109/impl.net).around -/
def A123_5 : AC := (AC.cond (O.t 21) (AC.reg [] [(I.mk (some 22) none false (X.v (A.mov (O.t 5)))), (I.mk (some 23) none false (X.v (A.mov (O.t 7)))), (I.mk (some 24) none false (X.v (A.bin BinOp.or (O.t 22) (O.t 23)))), (I.mk (some 5) none false (X.v (A.mov (O.t 24))))] []) AC.skip)
def A123_4 : AC := (AC.seq (AC.reg [] [(I.mk (some 17) none false (X.v (A.mov (O.t 1)))), (I.mk (some 18) none false (X.v (A.mov (O.t 6)))), (I.mk (some 19) none false (X.v (A.bin BinOp.shr (O.t 17) (O.t 18)))), (I.mk (some 20) none false (X.v (A.bin BinOp.and (O.t 19) (O.k (V.int IntKind.i64 (Int.ofNat 1)))))), (I.mk (some 21) none false (X.v (A.bin BinOp.eql (O.t 20) (O.k (V.int IntKind.i64 (Int.ofNat 1))))))] []) A123_5)
def A123_6 : AC := (AC.reg [] [(I.mk (some 25) none false (X.v (A.bin BinOp.add (O.t 12) (O.k (V.int IntKind.i64 (Int.ofNat 1)))))), (I.mk (some 12) none false (X.v (A.mov (O.t 25))))] [])
def A123_3 : AC := (AC.seq (AC.block 1 (AC.seq (AC.reg [] [(I.mk (some 14) none false (X.v (A.mov (O.t 12)))), (I.mk (some 15) none false (X.v (A.idx (O.t 10) (O.t 12) 1))), (I.mk (some 16) none false (X.v (A.load Sh.s (O.t 15)))), (I.mk (some 6) none false (X.v (A.mov (O.t 14)))), (I.mk (some 7) none false (X.v (A.mov (O.t 16))))] []) A123_4)) A123_6)
def A123_2 : AC := (AC.seq (AC.cond (O.t 13) AC.skip (AC.exit 0)) A123_3)
def A123_1 : AC := (AC.seq (AC.reg [] [(I.mk (some 13) none false (X.v (A.bin BinOp.lss (O.t 12) (O.t 11))))] []) A123_2)
def A123_7 : AC := (AC.seq (AC.reg [] [(I.mk (some 26) none false (X.v (A.mov (O.t 5)))), (I.mk (some 4) none false (X.v (A.mov (O.t 26))))] []) AC.ret)
def A123_10 : AC := (AC.block 0 (AC.loop A123_1))
def A123_9 : AC := (AC.seq (AC.seq (AC.reg [] [(I.mk (some 9) none false (X.v (A.fld (O.t 2) 0 0))), (I.mk (some 10) none false (X.v (A.load Sh.p (O.t 9)))), (I.mk (some 11) none false (X.v (A.len (O.t 10)))), (I.mk (some 12) none false (X.v (A.mov (O.k (V.int IntKind.i64 (Int.ofNat 0))))))] []) A123_10) A123_7)
def A123_8 : AC := (AC.seq (AC.reg [] [(I.mk (some 8) none false (X.v (A.mov (O.t 1)))), (I.mk (some 5) none false (X.v (A.mov (O.t 8))))] []) A123_9)
def A123 : AC := (AC.seq (AC.reg [.clr [2]] [(I.mk (some 2) none false (X.box (O.t 0))), (I.mk (some 4) none false (X.v (A.mov (O.k (V.int IntKind.i64 (Int.ofNat 0))))))] []) A123_8)
def an123 : List An := [{ id := 0, pre := [.clr [2]], ep := [], lin := [], sp := [] }]
theorem c123 : cC Try.prog Try.f123.ntmps an123 (Try.f123.body.getD .skip) = some A123 := by kernel_rfl
structure H123 (D : Den) (σ : Sig) (F : Nat) : Prop where
  mk ::
abbrev R123 (r : Int) : (Nat → V) → Prop := RR Try.prog [.tmp 4] 0 false (Enc.enc (r : Int))
section
variable {D : Den} {σ : Sig} {F : Nat} {r : Int}
def i_net_around_j1 (F : Nat) (set_2 : Int) (w_1 : (S1 (List Int))) (t12_7 : Int) (c1 : Int → Int → Option Int) (out_13 : Int) : Option Int :=
  c1 out_13 (w64 (t12_7 + 1))
theorem t_f123_j1 (H : H123 D σ F) (set_2 : Int) (w_1 : (S1 (List Int))) (t12_7 : Int) (c1 : Int → Int → Option Int) (Hc1 : ∀ (out_6 : Int) (t12_7 : Int) (s : Nat → V), Facts [(1, (.int .i64 set_2)), (4, (.int .i64 0)), (5, (.int .i64 out_6)), (10, (Enc.enc (w_1.a : List Int))), (11, (.int .i64 (w_1.a.length : Int))), (12, (.int .i64 t12_7))] s → c1 out_6 t12_7 = some r → Run D σ (R123 r) (.run A123_1 [.lp A123_1, .bk 0, .sq A123_7]) s) (out_13 : Int) (s : Nat → V) (hs : Facts [(1, (.int .i64 set_2)), (4, (.int .i64 0)), (5, (.int .i64 out_13)), (10, (Enc.enc (w_1.a : List Int))), (11, (.int .i64 (w_1.a.length : Int))), (12, (.int .i64 t12_7))] s) (h : i_net_around_j1 F set_2 w_1 t12_7 c1 out_13 = some r) : Run D σ (R123 r) (.nrm [.bk 1, .sq A123_6, .lp A123_1, .bk 0, .sq A123_7]) s := by
  unfold i_net_around_j1 at h
  obtain ⟨h1, h4, h5, h10, h11, h12⟩ := hs
  refine .nbk ?_
  refine .nsq ?_
  refine run_reg ?_
  refine e_end ?_
  refine g_v1 (t := 12) (u := (.int .i64 t12_7)) (.int .i64 (w64 (t12_7 + 1))) h12 rfl rfl ?_
  refine g_v1 (t := 25) (u := (.int .i64 (w64 (t12_7 + 1)))) (.int .i64 (w64 (t12_7 + 1))) rfl rfl rfl ?_
  refine g_end ?_
  refine e_end ?_
  refine renew [(1, (.int .i64 set_2)), (4, (.int .i64 0)), (5, (.int .i64 out_13)), (10, (Enc.enc (w_1.a : List Int))), (11, (.int .i64 (w_1.a.length : Int))), (12, (.int .i64 (w64 (t12_7 + 1))))] ⟨h1, h4, h5, h10, h11, rfl⟩ ?_
  rintro s ⟨h1, h4, h5, h10, h11, h12⟩
  refine .nlp ?_
  exact Hc1 out_13 (w64 (t12_7 + 1)) _ ⟨h1, h4, h5, h10, h11, h12⟩ h
def i_net_around_l1 (F : Nat) (set_2 : Int) (w_1 : (S1 (List Int)))  : Nat → Int → Int → Option Int
  | 0, _, _ => none
  | k + 1, out_6, t12_7 =>
    bif decide (t12_7 < (w_1.a.length : Int)) then
      (idx w_1.a t12_7).bind fun e_11 =>
      (shrI .i64 set_2 t12_7).bind fun q_12 =>
      bif ((iand .i64 q_12 1) == 1) then
        i_net_around_j1 F set_2 w_1 t12_7 (i_net_around_l1 F set_2 w_1 k) (ior .i64 out_6 e_11)
      else
        i_net_around_j1 F set_2 w_1 t12_7 (i_net_around_l1 F set_2 w_1 k) out_6
    else
      some out_6
theorem t_f123_l1 (H : H123 D σ F) (set_2 : Int) (w_1 : (S1 (List Int)))  : ∀ (k : Nat) (out_6 : Int) (t12_7 : Int) (s : Nat → V), Facts [(1, (.int .i64 set_2)), (4, (.int .i64 0)), (5, (.int .i64 out_6)), (10, (Enc.enc (w_1.a : List Int))), (11, (.int .i64 (w_1.a.length : Int))), (12, (.int .i64 t12_7))] s → i_net_around_l1 F set_2 w_1 k out_6 t12_7 = some r → Run D σ (R123 r) (.run A123_1 [.lp A123_1, .bk 0, .sq A123_7]) s := by
  intro k
  induction k with
  | zero => intro out_6 t12_7 s _ h; exact nomatch (h : (none : Option _) = some r)
  | succ k ih =>
    intro out_6 t12_7 s hs h
    rw [i_net_around_l1] at h
    obtain ⟨h1, h4, h5, h10, h11, h12⟩ := hs
    refine .seq ?_
    refine run_reg ?_
    refine e_end ?_
    refine g_v2 (t1 := 12) (t2 := 11) (u1 := (.int .i64 t12_7)) (u2 := (.int .i64 (w_1.a.length : Int))) (.bool (decide (t12_7 < (w_1.a.length : Int)))) h12 h11 rfl rfl ?_
    refine g_end ?_
    refine e_end ?_
    refine renew [(1, (.int .i64 set_2)), (4, (.int .i64 0)), (5, (.int .i64 out_6)), (10, (Enc.enc (w_1.a : List Int))), (11, (.int .i64 (w_1.a.length : Int))), (12, (.int .i64 t12_7)), (13, (.bool (decide (t12_7 < (w_1.a.length : Int)))))] ⟨h1, h4, h5, h10, h11, h12, rfl⟩ ?_
    rintro s ⟨h1, h4, h5, h10, h11, h12, h13⟩
    refine .nsq ?_
    refine .seq ?_
    refine run_cond (t := decide (t12_7 < (w_1.a.length : Int))) h13 h (fun h => ?_) (fun h => ?_)
    · refine .skip ?_
      refine .nsq ?_
      refine .seq ?_
      refine .block ?_
      refine .seq ?_
      refine run_reg ?_
      refine e_end ?_
      refine g_v1 (t := 12) (u := (.int .i64 t12_7)) (.int .i64 t12_7) h12 rfl rfl ?_
      obtain ⟨e_11, E_e_11, h⟩ := bind_some h
      refine g_v (.ref .sh 0 [] (.int .i64 e_11)) (ev_idx (t := .sh) (lo := 0) (xs := w_1.a) h10 h12 E_e_11 rfl rfl) ?_
      refine g_v1 (t := 15) (u := (.ref .sh 0 [] (.int .i64 e_11))) (.int .i64 e_11) rfl rfl rfl ?_
      refine g_v1 (t := 14) (u := (.int .i64 t12_7)) (.int .i64 t12_7) rfl rfl rfl ?_
      refine g_v1 (t := 16) (u := (.int .i64 e_11)) (.int .i64 e_11) rfl rfl rfl ?_
      refine g_end ?_
      refine e_end ?_
      refine renew [(1, (.int .i64 set_2)), (4, (.int .i64 0)), (5, (.int .i64 out_6)), (6, (.int .i64 t12_7)), (7, (.int .i64 e_11)), (10, (Enc.enc (w_1.a : List Int))), (11, (.int .i64 (w_1.a.length : Int))), (12, (.int .i64 t12_7))] ⟨h1, h4, h5, rfl, rfl, h10, h11, h12⟩ ?_
      rintro s ⟨h1, h4, h5, h6, h7, h10, h11, h12⟩
      refine .nsq ?_
      refine .seq ?_
      refine run_reg ?_
      refine e_end ?_
      refine g_v1 (t := 1) (u := (.int .i64 set_2)) (.int .i64 set_2) h1 rfl rfl ?_
      refine g_v1 (t := 6) (u := (.int .i64 t12_7)) (.int .i64 t12_7) h6 rfl rfl ?_
      obtain ⟨q_12, E_q_12, h⟩ := bind_some h
      refine g_v (.int .i64 q_12) (ev_shr rfl rfl E_q_12) ?_
      refine g_v1 (t := 19) (u := (.int .i64 q_12)) (.int .i64 (iand .i64 q_12 1)) rfl rfl rfl ?_
      refine g_v1 (t := 20) (u := (.int .i64 (iand .i64 q_12 1))) (.bool ((iand .i64 q_12 1) == 1)) rfl rfl rfl ?_
      refine g_end ?_
      refine e_end ?_
      refine renew [(1, (.int .i64 set_2)), (4, (.int .i64 0)), (5, (.int .i64 out_6)), (7, (.int .i64 e_11)), (10, (Enc.enc (w_1.a : List Int))), (11, (.int .i64 (w_1.a.length : Int))), (12, (.int .i64 t12_7)), (21, (.bool ((iand .i64 q_12 1) == 1)))] ⟨h1, h4, h5, h7, h10, h11, h12, rfl⟩ ?_
      rintro s ⟨h1, h4, h5, h7, h10, h11, h12, h21⟩
      refine .nsq ?_
      refine run_cond (t := ((iand .i64 q_12 1) == 1)) h21 h (fun h => ?_) (fun h => ?_)
      · refine run_reg ?_
        refine e_end ?_
        refine g_v1 (t := 5) (u := (.int .i64 out_6)) (.int .i64 out_6) h5 rfl rfl ?_
        refine g_v1 (t := 7) (u := (.int .i64 e_11)) (.int .i64 e_11) h7 rfl rfl ?_
        refine g_v2 (t1 := 22) (t2 := 23) (u1 := (.int .i64 out_6)) (u2 := (.int .i64 e_11)) (.int .i64 (ior .i64 out_6 e_11)) rfl rfl rfl rfl ?_
        refine g_v1 (t := 24) (u := (.int .i64 (ior .i64 out_6 e_11))) (.int .i64 (ior .i64 out_6 e_11)) rfl rfl rfl ?_
        refine g_end ?_
        refine e_end ?_
        refine renew [(1, (.int .i64 set_2)), (4, (.int .i64 0)), (5, (.int .i64 (ior .i64 out_6 e_11))), (10, (Enc.enc (w_1.a : List Int))), (11, (.int .i64 (w_1.a.length : Int))), (12, (.int .i64 t12_7))] ⟨h1, h4, rfl, h10, h11, h12⟩ ?_
        rintro s ⟨h1, h4, h5, h10, h11, h12⟩
        exact t_f123_j1 H set_2 w_1 t12_7 (i_net_around_l1 F set_2 w_1 k) ih (ior .i64 out_6 e_11) _ ⟨h1, h4, h5, h10, h11, h12⟩ h
      · refine .skip ?_
        exact t_f123_j1 H set_2 w_1 t12_7 (i_net_around_l1 F set_2 w_1 k) ih out_6 _ ⟨h1, h4, h5, h10, h11, h12⟩ h
    · refine .exit ?_
      refine .esq ?_
      refine .elp ?_
      refine .ebk ?_
      refine .nsq ?_
      refine .seq ?_
      refine run_reg ?_
      refine e_end ?_
      refine g_v1 (t := 5) (u := (.int .i64 out_6)) (.int .i64 out_6) h5 rfl rfl ?_
      refine g_v1 (t := 26) (u := (.int .i64 out_6)) (.int .i64 out_6) rfl rfl rfl ?_
      refine g_end ?_
      refine e_end ?_
      refine renew [(4, (.int .i64 out_6))] rfl ?_
      rintro s h4
      refine .nsq ?_
      refine .ret ?_
      have hr := Option.some.inj h
      subst hr
      exact rrA (res_tmp h4) rfl
def i_net_around (F : Nat) (w_1 : (S1 (List Int))) (set_2 : Int) : Option Int :=
  i_net_around_l1 F set_2 w_1 F set_2 0
theorem t123 (H : H123 D σ F) (w_1 : (S1 (List Int))) (set_2 : Int) (s : Nat → V) (hs : Facts [(0, (.agg [(Enc.enc (w_1.a : List Int))])), (1, (.int .i64 set_2))] s) (h : i_net_around F w_1 set_2 = some r) : Run D σ (R123 r) (.run A123 []) s := by
  unfold i_net_around at h
  obtain ⟨h0, h1⟩ := hs
  refine .seq ?_
  refine run_reg ?_
  refine e_clr ?_
  refine e_end ?_
  refine g_box (.agg [(Enc.enc (w_1.a : List Int))]) (rd_of (keep_clear (s := s) (pk := [2]) h0 rfl (map_agg (maps_cons (Enc.map_enc _ (w_1.a : List Int)) maps_nil))) rfl) (gone_clear (s := s) (pk := [2]) (t := 2) rfl) rfl ?_
  refine g_v0 (.int .i64 0) rfl rfl ?_
  refine g_end ?_
  refine e_end ?_
  refine renew [(1, (.int .i64 set_2)), (2, (.ref (.bx 2) 0 [] (.agg [(Enc.enc (w_1.a : List Int))]))), (4, (.int .i64 0))] ⟨(keep_clear (s := s) (pk := [2]) h1 rfl rfl), rfl, rfl⟩ ?_
  rintro s ⟨h1, h2, h4⟩
  refine .nsq ?_
  refine .seq ?_
  refine run_reg ?_
  refine e_end ?_
  refine g_v1 (t := 1) (u := (.int .i64 set_2)) (.int .i64 set_2) h1 rfl rfl ?_
  refine g_v1 (t := 8) (u := (.int .i64 set_2)) (.int .i64 set_2) rfl rfl rfl ?_
  refine g_end ?_
  refine e_end ?_
  refine renew [(1, (.int .i64 set_2)), (2, (.ref (.bx 2) 0 [] (.agg [(Enc.enc (w_1.a : List Int))]))), (4, (.int .i64 0)), (5, (.int .i64 set_2))] ⟨h1, h2, h4, rfl⟩ ?_
  rintro s ⟨h1, h2, h4, h5⟩
  refine .nsq ?_
  refine .seq ?_
  refine .seq ?_
  refine run_reg ?_
  refine e_end ?_
  refine g_v1 (t := 2) (u := (.ref (.bx 2) 0 [] (.agg [(Enc.enc (w_1.a : List Int))]))) (.ref (.bx 2) 0 [0] (Enc.enc (w_1.a : List Int))) h2 rfl rfl ?_
  refine g_v1 (t := 9) (u := (.ref (.bx 2) 0 [0] (Enc.enc (w_1.a : List Int)))) (Enc.enc (w_1.a : List Int)) rfl rfl rfl ?_
  refine g_v (.int .i64 (w_1.a.length : Int)) (ev_len (xs := w_1.a) rfl) ?_
  refine g_v0 (.int .i64 0) rfl rfl ?_
  refine g_end ?_
  refine e_end ?_
  refine renew [(1, (.int .i64 set_2)), (4, (.int .i64 0)), (5, (.int .i64 set_2)), (10, (Enc.enc (w_1.a : List Int))), (11, (.int .i64 (w_1.a.length : Int))), (12, (.int .i64 0))] ⟨h1, h4, h5, rfl, rfl, rfl⟩ ?_
  rintro s ⟨h1, h4, h5, h10, h11, h12⟩
  refine .nsq ?_
  refine .block ?_
  refine .loop ?_
  exact t_f123_l1 H set_2 w_1 F set_2 0 _ ⟨h1, h4, h5, h10, h11, h12⟩ h
end
def e123 (F : Nat) : Ent := ⟨123, da (fun (x : ((S1 (List Int)) × Int × Unit)) => i_net_around F x.1 x.2.1) (fun (r : Int) => (Enc.enc (r : Int))), 0, false, selF []⟩
theorem p123 {F : Nat} {x0 : (S1 (List Int))} {x1 : Int} {r : Int} (h : i_net_around F x0 x1 = some r) : (e123 F).den [Enc.enc x0, Enc.enc x1] = some (Enc.enc (r : Int)) := da_put (f := fun (x : ((S1 (List Int)) × Int × Unit)) => i_net_around F x.1 x.2.1) (t := fun (r : Int) => (Enc.enc (r : Int))) (x0, x1, ()) h
theorem o123 {D : Den} {σ : Sig} {F : Nat} (hF : Fits2 Try.prog D σ) (H : H123 D σ F) : (e123 F).Ok Try.prog := by
  refine ⟨fun args r h => ?_, ⟨Try.f123, Try.func123, rfl, rfl⟩⟩
  obtain ⟨⟨x0, x1, _⟩, y, rfl, hy, rfl⟩ := da_open h
  exact contract_run hF (by kernel_rfl) Try.func123 rfl c123 (show 2 ≤ Try.f123.ntmps by decide) (t123 H x0 x1 _ ⟨rfl, rfl⟩ hy)
/- (loop.example/g01109/impl.net).parts -/
def A92_2 : AC := (AC.cond (O.t 9) AC.skip (AC.exit 0))
def A92_7 : AC := (AC.cond (O.t 21) (AC.exit 2) AC.skip)
def A92_8 : AC := (AC.reg [] [(I.mk (some 22) none false (X.v (A.mov (O.t 7)))), (I.mk (some 6) none false (X.v (A.mov (O.t 22))))] [])
def A92_6 : AC := (AC.seq (AC.seq (AC.reg [] [(I.mk (some 19) none false (X.v (A.mov (O.t 7)))), (I.mk (some 20) none false (X.v (A.mov (O.t 6)))), (I.mk (some 21) none false (X.v (A.bin BinOp.eql (O.t 19) (O.t 20))))] []) A92_7) A92_8)
def A92_5 : AC := (AC.block 3 (AC.seq (AC.reg [] [(I.mk (some 14) none false (X.v (A.load (Sh.ag [Sh.p]) (O.t 2)))), (I.mk (some 15) none false (X.v (A.mov (O.t 6)))), (I.mk (some 16) none false (X.call (O.k (V.fn 123 [] [])) [(O.t 14), (O.t 15)])), (I.mk (some 17) none false (X.v (A.mov (O.t 1)))), (I.mk (some 18) none false (X.v (A.bin BinOp.and (O.t 16) (O.t 17)))), (I.mk (some 7) none false (X.v (A.mov (O.t 18))))] []) A92_6))
def A92_10 : AC := (AC.reg [] [(I.mk (some 27) none false (X.v (A.mov (O.t 1)))), (I.mk (some 28) none false (X.v (A.mov (O.t 6)))), (I.mk (some 29) none false (X.v (A.bin BinOp.andNot (O.t 27) (O.t 28)))), (I.mk (some 1) none false (X.v (A.mov (O.t 29))))] [])
def A92_9 : AC := (AC.seq (AC.reg [.clr [25, 26]] [(I.mk (some 23) none false (X.v (A.mov (O.t 5)))), (I.mk (some 24) none false (X.v (A.mov (O.t 6)))), (I.mk (some 25) none false (X.lit (V.int IntKind.i64 (Int.ofNat 0)) 1 [(0, 0, (O.t 24))])), (I.mk (some 26) none false (X.app Sh.s (O.t 23) (O.t 25))), (I.mk (some 5) none false (X.v (A.mov (O.t 26))))] [.home 26 5]) A92_10)
def A92_4 : AC := (AC.seq (AC.block 2 (AC.loop A92_5)) A92_9)
def A92_3 : AC := (AC.block 1 (AC.seq (AC.reg [] [(I.mk (some 10) none false (X.v (A.mov (O.t 1)))), (I.mk (some 11) none false (X.v (A.mov (O.t 1)))), (I.mk (some 12) none false (X.v (A.un UnOp.neg (O.t 11)))), (I.mk (some 13) none false (X.v (A.bin BinOp.and (O.t 10) (O.t 12)))), (I.mk (some 6) none false (X.v (A.mov (O.t 13))))] []) A92_4))
def A92_1 : AC := (AC.seq (AC.seq (AC.reg [] [(I.mk (some 8) none false (X.v (A.mov (O.t 1)))), (I.mk (some 9) none false (X.v (A.bin BinOp.neq (O.t 8) (O.k (V.int IntKind.i64 (Int.ofNat 0))))))] []) A92_2) A92_3)
def A92_11 : AC := (AC.seq (AC.reg [] [(I.mk (some 30) none false (X.v (A.mov (O.t 5)))), (I.mk (some 4) none false (X.v (A.mov (O.t 30))))] [.home 5 4]) AC.ret)
def A92_13 : AC := (AC.seq (AC.block 0 (AC.loop A92_1)) A92_11)
def A92_12 : AC := (AC.seq (AC.reg [] [(I.mk (some 5) none false (X.v (A.mov (O.k (V.sl Tok.nl Sh.s 0 [])))))] []) A92_13)
def A92 : AC := (AC.seq (AC.reg [.clr [2]] [(I.mk (some 2) none false (X.box (O.t 0))), (I.mk (some 4) none false (X.v (A.mov (O.k (V.sl Tok.nl Sh.s 0 [])))))] []) A92_12)
def an92 : List An := [{ id := 0, pre := [.clr [2]], ep := [], lin := [], sp := [] }, { id := 7, pre := [.clr [25, 26]], ep := [.home 26 5], lin := [], sp := [] }, { id := 9, pre := [], ep := [.home 5 4], lin := [], sp := [] }]
theorem c92 : cC Try.prog Try.f92.ntmps an92 (Try.f92.body.getD .skip) = some A92 := by kernel_rfl
structure H92 (D : Den) (σ : Sig) (F : Nat) : Prop where
  c123 : ∀ (x0 : (S1 (List Int))) (x1 : Int) r, i_net_around F x0 x1 = some r → D 123 [Enc.enc x0, Enc.enc x1] = some (Enc.enc (r : Int))
  g123 : σ 123 = some (0, false)
abbrev R92 (r : (List Int)) : (Nat → V) → Prop := RR Try.prog [.tmp 4] 0 false (Enc.enc (r : (List Int)))
section
variable {D : Den} {σ : Sig} {F : Nat} {r : (List Int)}
def i_net_parts_l1 (F : Nat) (set_8 : Int) (w_1 : (S1 (List Int))) (parts_9 : (NL Int)) (c1 : Int → (NL Int) → Option (List Int)) : Nat → Int → Option (List Int)
  | 0, _ => none
  | k + 1, part_16 =>
    (i_net_around F w_1 part_16).bind fun r_18 =>
    bif ((iand .i64 r_18 set_8) == part_16) then
      (appL parts_9.list [part_16]).bind fun ap_19 =>
      c1 (iandNot .i64 set_8 part_16) (.of ap_19)
    else
      (i_net_parts_l1 F set_8 w_1 parts_9 c1 k) (iand .i64 r_18 set_8)
theorem t_f92_l1 (H : H92 D σ F) (set_8 : Int) (w_1 : (S1 (List Int))) (parts_9 : (NL Int)) (c1 : Int → (NL Int) → Option (List Int)) (Hc1 : ∀ (set_8 : Int) (parts_9 : (NL Int)) (s : Nat → V), Facts [(1, (.int .i64 set_8)), (2, (.ref (.bx 2) 0 [] (.agg [(Enc.enc (w_1.a : List Int))]))), (4, (.sl .nl (Enc.shp Int) 0 [])), (5, (encO (.at 5 []) (parts_9 : NL Int)))] s → c1 set_8 parts_9 = some r → Run D σ (R92 r) (.run A92_1 [.lp A92_1, .bk 0, .sq A92_11]) s) : ∀ (k : Nat) (part_16 : Int) (s : Nat → V), Facts [(1, (.int .i64 set_8)), (2, (.ref (.bx 2) 0 [] (.agg [(Enc.enc (w_1.a : List Int))]))), (4, (.sl .nl (Enc.shp Int) 0 [])), (5, (encO (.at 5 []) (parts_9 : NL Int))), (6, (.int .i64 part_16))] s → i_net_parts_l1 F set_8 w_1 parts_9 c1 k part_16 = some r → Run D σ (R92 r) (.run A92_5 [.lp A92_5, .bk 2, .sq A92_9, .bk 1, .lp A92_1, .bk 0, .sq A92_11]) s := by
  intro k
  induction k with
  | zero => intro part_16 s _ h; exact nomatch (h : (none : Option _) = some r)
  | succ k ih =>
    intro part_16 s hs h
    rw [i_net_parts_l1] at h
    obtain ⟨h1, h2, h4, h5, h6⟩ := hs
    refine .block ?_
    refine .seq ?_
    refine run_reg ?_
    refine e_end ?_
    refine g_v1 (t := 2) (u := (.ref (.bx 2) 0 [] (.agg [(Enc.enc (w_1.a : List Int))]))) (.agg [(Enc.enc (w_1.a : List Int))]) h2 rfl rfl ?_
    refine g_v1 (t := 6) (u := (.int .i64 part_16)) (.int .i64 part_16) h6 rfl rfl ?_
    obtain ⟨r_18, E_r_18, h⟩ := bind_some h
    refine g_call (m := 0) (al := false) (r := (Enc.enc (r_18 : Int))) [Enc.enc (w_1 : (S1 (List Int))), Enc.enc (part_16 : Int)] (ta_cons (v := (.agg [(Enc.enc (w_1.a : List Int))])) rfl rfl (Enc.erase_enc (w_1 : (S1 (List Int)))) (ta_cons (v := (.int .i64 part_16)) rfl rfl rfl ta_nil)) (H.c123 _ _ _ E_r_18) H.g123 rfl rfl rfl rfl ?_
    refine g_v1 (t := 1) (u := (.int .i64 set_8)) (.int .i64 set_8) h1 rfl rfl ?_
    refine g_v2 (t1 := 16) (t2 := 17) (u1 := (.int .i64 r_18)) (u2 := (.int .i64 set_8)) (.int .i64 (iand .i64 r_18 set_8)) rfl rfl rfl rfl ?_
    refine g_v1 (t := 18) (u := (.int .i64 (iand .i64 r_18 set_8))) (.int .i64 (iand .i64 r_18 set_8)) rfl rfl rfl ?_
    refine g_end ?_
    refine e_end ?_
    refine renew [(1, (.int .i64 set_8)), (2, (.ref (.bx 2) 0 [] (.agg [(Enc.enc (w_1.a : List Int))]))), (4, (.sl .nl (Enc.shp Int) 0 [])), (5, (encO (.at 5 []) (parts_9 : NL Int))), (6, (.int .i64 part_16)), (7, (.int .i64 (iand .i64 r_18 set_8)))] ⟨h1, h2, h4, h5, h6, rfl⟩ ?_
    rintro s ⟨h1, h2, h4, h5, h6, h7⟩
    refine .nsq ?_
    refine .seq ?_
    refine .seq ?_
    refine run_reg ?_
    refine e_end ?_
    refine g_v1 (t := 7) (u := (.int .i64 (iand .i64 r_18 set_8))) (.int .i64 (iand .i64 r_18 set_8)) h7 rfl rfl ?_
    refine g_v1 (t := 6) (u := (.int .i64 part_16)) (.int .i64 part_16) h6 rfl rfl ?_
    refine g_v2 (t1 := 19) (t2 := 20) (u1 := (.int .i64 (iand .i64 r_18 set_8))) (u2 := (.int .i64 part_16)) (.bool ((iand .i64 r_18 set_8) == part_16)) rfl rfl rfl rfl ?_
    refine g_end ?_
    refine e_end ?_
    refine renew [(1, (.int .i64 set_8)), (2, (.ref (.bx 2) 0 [] (.agg [(Enc.enc (w_1.a : List Int))]))), (4, (.sl .nl (Enc.shp Int) 0 [])), (5, (encO (.at 5 []) (parts_9 : NL Int))), (6, (.int .i64 part_16)), (7, (.int .i64 (iand .i64 r_18 set_8))), (21, (.bool ((iand .i64 r_18 set_8) == part_16)))] ⟨h1, h2, h4, h5, h6, h7, rfl⟩ ?_
    rintro s ⟨h1, h2, h4, h5, h6, h7, h21⟩
    refine .nsq ?_
    refine run_cond (t := ((iand .i64 r_18 set_8) == part_16)) h21 h (fun h => ?_) (fun h => ?_)
    · refine .exit ?_
      refine .esq ?_
      refine .ebn (by decide) ?_
      refine .elp ?_
      refine .ebk ?_
      refine .nsq ?_
      refine .seq ?_
      refine run_reg ?_
      refine e_clr ?_
      refine e_end ?_
      refine g_v (encO (.at 5 []) (parts_9 : NL Int)) (ev_mov (keep_clear (s := s) (pk := [25, 26]) h5 rfl (map_encO (r := 5) (p := []) rfl rfl)) ok_encO) ?_
      refine g_v1 (t := 6) (u := (.int .i64 part_16)) (.int .i64 part_16) (keep_clear (s := s) (pk := [25, 26]) h6 rfl rfl) rfl rfl ?_
      refine g_litL [(24, (.int .i64 part_16))] [Enc.enc (part_16 : Int)] rfl rfl rfl (gone_clear (s := s) (pk := [25, 26]) (t := 25) rfl) ?_
      obtain ⟨ap_19, E_ap_19, h⟩ := bind_some h
      refine g_app (q := 5) (p := []) (o := (parts_9 : NL Int)) (ys := ([part_16] : List Int)) (t2 := (.at 25 [])) (lo2 := 0) rfl rfl rfl (gone_clear (s := s) (pk := [25, 26]) (t := 26) rfl) (appN_L (o := (parts_9 : NL Int)) E_ap_19 (by split <;> simp)) (fun s_9 ha_9 => ?_)
      refine g_v1 (t := 26) (u := (encO (.at 26 []) (.of (ap_19 : List Int)))) (encO (.at 26 []) (.of (ap_19 : List Int))) rfl rfl rfl ?_
      refine g_end ?_
      refine e_home (r := 26) (x := 5) (v := (encO (.at 26 []) (.of (ap_19 : List Int)))) (by exact rfl) rfl (fun s_10 hg_10 => ?_)
      refine e_end ?_
      refine renew [(1, (.int .i64 set_8)), (2, (.ref (.bx 2) 0 [] (.agg [(Enc.enc (w_1.a : List Int))]))), (4, (.sl .nl (Enc.shp Int) 0 [])), (5, (encO (.at 5 []) (.of (ap_19 : List Int)))), (6, (.int .i64 part_16))] ⟨(hg_10 1 (.int .i64 set_8) (.int .i64 set_8) (show s_9 1 = (.int .i64 set_8) from keep_app ha_9 (keep_clear (s := s) (pk := [25, 26]) h1 rfl rfl) rfl) rfl), (hg_10 2 (.ref (.bx 2) 0 [] (.agg [(Enc.enc (w_1.a : List Int))])) (.ref (.bx 2) 0 [] (.agg [(Enc.enc (w_1.a : List Int))])) (show s_9 2 = (.ref (.bx 2) 0 [] (.agg [(Enc.enc (w_1.a : List Int))])) from keep_app ha_9 (keep_clear (s := s) (pk := [25, 26]) h2 rfl (map_bx rfl (map_agg (maps_cons (Enc.map_enc _ (w_1.a : List Int)) maps_nil)))) (map_bx rfl (map_agg (maps_cons (Enc.map_enc _ (w_1.a : List Int)) maps_nil)))) (map_bx rfl (map_agg (maps_cons (Enc.map_enc _ (w_1.a : List Int)) maps_nil)))), (hg_10 4 (.sl .nl (Enc.shp Int) 0 []) (.sl .nl (Enc.shp Int) 0 []) (show s_9 4 = (.sl .nl (Enc.shp Int) 0 []) from keep_app ha_9 (keep_clear (s := s) (pk := [25, 26]) h4 rfl rfl) rfl) rfl), (hg_10 5 (encO (.at 26 []) (.of (ap_19 : List Int))) (encO (.at 5 []) (.of (ap_19 : List Int))) rfl (map_encO (r := 26) (p := []) rfl rfl)), (hg_10 6 (.int .i64 part_16) (.int .i64 part_16) (show s_9 6 = (.int .i64 part_16) from keep_app ha_9 (keep_clear (s := s) (pk := [25, 26]) h6 rfl rfl) rfl) rfl)⟩ ?_
      rintro s ⟨h1, h2, h4, h5, h6⟩
      refine .nsq ?_
      refine run_reg ?_
      refine e_end ?_
      refine g_v1 (t := 1) (u := (.int .i64 set_8)) (.int .i64 set_8) h1 rfl rfl ?_
      refine g_v1 (t := 6) (u := (.int .i64 part_16)) (.int .i64 part_16) h6 rfl rfl ?_
      refine g_v2 (t1 := 27) (t2 := 28) (u1 := (.int .i64 set_8)) (u2 := (.int .i64 part_16)) (.int .i64 (iandNot .i64 set_8 part_16)) rfl rfl rfl rfl ?_
      refine g_v1 (t := 29) (u := (.int .i64 (iandNot .i64 set_8 part_16))) (.int .i64 (iandNot .i64 set_8 part_16)) rfl rfl rfl ?_
      refine g_end ?_
      refine e_end ?_
      refine renew [(1, (.int .i64 (iandNot .i64 set_8 part_16))), (2, (.ref (.bx 2) 0 [] (.agg [(Enc.enc (w_1.a : List Int))]))), (4, (.sl .nl (Enc.shp Int) 0 [])), (5, (encO (.at 5 []) (.of (ap_19 : List Int))))] ⟨rfl, h2, h4, h5⟩ ?_
      rintro s ⟨h1, h2, h4, h5⟩
      refine .nbk ?_
      refine .nlp ?_
      exact Hc1 (iandNot .i64 set_8 part_16) (.of ap_19) _ ⟨h1, h2, h4, h5⟩ h
    · refine .skip ?_
      refine .nsq ?_
      refine run_reg ?_
      refine e_end ?_
      refine g_v1 (t := 7) (u := (.int .i64 (iand .i64 r_18 set_8))) (.int .i64 (iand .i64 r_18 set_8)) h7 rfl rfl ?_
      refine g_v1 (t := 22) (u := (.int .i64 (iand .i64 r_18 set_8))) (.int .i64 (iand .i64 r_18 set_8)) rfl rfl rfl ?_
      refine g_end ?_
      refine e_end ?_
      refine renew [(1, (.int .i64 set_8)), (2, (.ref (.bx 2) 0 [] (.agg [(Enc.enc (w_1.a : List Int))]))), (4, (.sl .nl (Enc.shp Int) 0 [])), (5, (encO (.at 5 []) (parts_9 : NL Int))), (6, (.int .i64 (iand .i64 r_18 set_8)))] ⟨h1, h2, h4, h5, rfl⟩ ?_
      rintro s ⟨h1, h2, h4, h5, h6⟩
      refine .nbk ?_
      refine .nlp ?_
      exact ih (iand .i64 r_18 set_8) _ ⟨h1, h2, h4, h5, h6⟩ h
def i_net_parts_l2 (F : Nat) (w_1 : (S1 (List Int)))  : Nat → Int → (NL Int) → Option (List Int)
  | 0, _, _ => none
  | k + 1, set_8, parts_9 =>
    bif (set_8 != 0) then
      i_net_parts_l1 F set_8 w_1 parts_9 (i_net_parts_l2 F w_1 k) F (iand .i64 set_8 (w64 (0 - set_8)))
    else
      some parts_9.list
theorem t_f92_l2 (H : H92 D σ F) (w_1 : (S1 (List Int)))  : ∀ (k : Nat) (set_8 : Int) (parts_9 : (NL Int)) (s : Nat → V), Facts [(1, (.int .i64 set_8)), (2, (.ref (.bx 2) 0 [] (.agg [(Enc.enc (w_1.a : List Int))]))), (4, (.sl .nl (Enc.shp Int) 0 [])), (5, (encO (.at 5 []) (parts_9 : NL Int)))] s → i_net_parts_l2 F w_1 k set_8 parts_9 = some r → Run D σ (R92 r) (.run A92_1 [.lp A92_1, .bk 0, .sq A92_11]) s := by
  intro k
  induction k with
  | zero => intro set_8 parts_9 s _ h; exact nomatch (h : (none : Option _) = some r)
  | succ k ih =>
    intro set_8 parts_9 s hs h
    rw [i_net_parts_l2] at h
    obtain ⟨h1, h2, h4, h5⟩ := hs
    refine .seq ?_
    refine .seq ?_
    refine run_reg ?_
    refine e_end ?_
    refine g_v1 (t := 1) (u := (.int .i64 set_8)) (.int .i64 set_8) h1 rfl rfl ?_
    refine g_v1 (t := 8) (u := (.int .i64 set_8)) (.bool (set_8 != 0)) rfl rfl rfl ?_
    refine g_end ?_
    refine e_end ?_
    refine renew [(1, (.int .i64 set_8)), (2, (.ref (.bx 2) 0 [] (.agg [(Enc.enc (w_1.a : List Int))]))), (4, (.sl .nl (Enc.shp Int) 0 [])), (5, (encO (.at 5 []) (parts_9 : NL Int))), (9, (.bool (set_8 != 0)))] ⟨h1, h2, h4, h5, rfl⟩ ?_
    rintro s ⟨h1, h2, h4, h5, h9⟩
    refine .nsq ?_
    refine run_cond (t := (set_8 != 0)) h9 h (fun h => ?_) (fun h => ?_)
    · refine .skip ?_
      refine .nsq ?_
      refine .block ?_
      refine .seq ?_
      refine run_reg ?_
      refine e_end ?_
      refine g_v1 (t := 1) (u := (.int .i64 set_8)) (.int .i64 set_8) h1 rfl rfl ?_
      refine g_v1 (t := 1) (u := (.int .i64 set_8)) (.int .i64 set_8) h1 rfl rfl ?_
      refine g_v1 (t := 11) (u := (.int .i64 set_8)) (.int .i64 (w64 (0 - set_8))) rfl rfl rfl ?_
      refine g_v2 (t1 := 10) (t2 := 12) (u1 := (.int .i64 set_8)) (u2 := (.int .i64 (w64 (0 - set_8)))) (.int .i64 (iand .i64 set_8 (w64 (0 - set_8)))) rfl rfl rfl rfl ?_
      refine g_v1 (t := 13) (u := (.int .i64 (iand .i64 set_8 (w64 (0 - set_8))))) (.int .i64 (iand .i64 set_8 (w64 (0 - set_8)))) rfl rfl rfl ?_
      refine g_end ?_
      refine e_end ?_
      refine renew [(1, (.int .i64 set_8)), (2, (.ref (.bx 2) 0 [] (.agg [(Enc.enc (w_1.a : List Int))]))), (4, (.sl .nl (Enc.shp Int) 0 [])), (5, (encO (.at 5 []) (parts_9 : NL Int))), (6, (.int .i64 (iand .i64 set_8 (w64 (0 - set_8)))))] ⟨h1, h2, h4, h5, rfl⟩ ?_
      rintro s ⟨h1, h2, h4, h5, h6⟩
      refine .nsq ?_
      refine .seq ?_
      refine .block ?_
      refine .loop ?_
      exact t_f92_l1 H set_8 w_1 parts_9 (i_net_parts_l2 F w_1 k) ih F (iand .i64 set_8 (w64 (0 - set_8))) _ ⟨h1, h2, h4, h5, h6⟩ h
    · refine .exit ?_
      refine .esq ?_
      refine .elp ?_
      refine .ebk ?_
      refine .nsq ?_
      refine .seq ?_
      refine run_reg ?_
      refine e_end ?_
      refine g_v (encO (.at 5 []) (parts_9 : NL Int)) (ev_mov h5 ok_encO) ?_
      refine g_v (encO (.at 5 []) (parts_9 : NL Int)) (ev_mov rfl ok_encO) ?_
      refine g_end ?_
      refine e_home (r := 5) (x := 4) (v := (encO (.at 5 []) (parts_9 : NL Int))) (by exact rfl) ok_encO (fun s_11 hg_11 => ?_)
      refine e_end ?_
      refine renew [(4, (encO (.at 4 []) (parts_9 : NL Int)))] (hg_11 4 (encO (.at 5 []) (parts_9 : NL Int)) (encO (.at 4 []) (parts_9 : NL Int)) rfl (map_encO (r := 5) (p := []) rfl rfl)) ?_
      rintro s h4
      refine .nsq ?_
      refine .ret ?_
      have hr := Option.some.inj h
      subst hr
      exact rrA (res_tmp h4) (fin_retF (fin_own (o := parts_9)) (mine_own rfl))
def i_net_parts (F : Nat) (w_1 : (S1 (List Int))) (set_2 : Int) : Option (List Int) :=
  i_net_parts_l2 F w_1 F set_2 .nil
theorem t92 (H : H92 D σ F) (w_1 : (S1 (List Int))) (set_2 : Int) (s : Nat → V) (hs : Facts [(0, (.agg [(Enc.enc (w_1.a : List Int))])), (1, (.int .i64 set_2))] s) (h : i_net_parts F w_1 set_2 = some r) : Run D σ (R92 r) (.run A92 []) s := by
  unfold i_net_parts at h
  obtain ⟨h0, h1⟩ := hs
  refine .seq ?_
  refine run_reg ?_
  refine e_clr ?_
  refine e_end ?_
  refine g_box (.agg [(Enc.enc (w_1.a : List Int))]) (rd_of (keep_clear (s := s) (pk := [2]) h0 rfl (map_agg (maps_cons (Enc.map_enc _ (w_1.a : List Int)) maps_nil))) rfl) (gone_clear (s := s) (pk := [2]) (t := 2) rfl) rfl ?_
  refine g_v0 (.sl .nl (Enc.shp Int) 0 []) rfl rfl ?_
  refine g_end ?_
  refine e_end ?_
  refine renew [(1, (.int .i64 set_2)), (2, (.ref (.bx 2) 0 [] (.agg [(Enc.enc (w_1.a : List Int))]))), (4, (.sl .nl (Enc.shp Int) 0 []))] ⟨(keep_clear (s := s) (pk := [2]) h1 rfl rfl), rfl, rfl⟩ ?_
  rintro s ⟨h1, h2, h4⟩
  refine .nsq ?_
  refine .seq ?_
  refine run_reg ?_
  refine e_end ?_
  refine g_v0 (.sl .nl (Enc.shp Int) 0 []) rfl rfl ?_
  refine g_end ?_
  refine e_end ?_
  refine renew [(1, (.int .i64 set_2)), (2, (.ref (.bx 2) 0 [] (.agg [(Enc.enc (w_1.a : List Int))]))), (4, (.sl .nl (Enc.shp Int) 0 [])), (5, (.sl .nl (Enc.shp Int) 0 []))] ⟨h1, h2, h4, rfl⟩ ?_
  rintro s ⟨h1, h2, h4, h5⟩
  refine .nsq ?_
  refine .seq ?_
  refine .block ?_
  refine .loop ?_
  exact t_f92_l2 H w_1 F set_2 .nil _ ⟨h1, h2, h4, h5⟩ h
end
def e92 (F : Nat) : Ent := ⟨92, da (fun (x : ((S1 (List Int)) × Int × Unit)) => i_net_parts F x.1 x.2.1) (fun (r : (List Int)) => (Enc.enc (r : (List Int)))), 0, false, selF []⟩
theorem p92 {F : Nat} {x0 : (S1 (List Int))} {x1 : Int} {r : (List Int)} (h : i_net_parts F x0 x1 = some r) : (e92 F).den [Enc.enc x0, Enc.enc x1] = some (Enc.enc (r : (List Int))) := da_put (f := fun (x : ((S1 (List Int)) × Int × Unit)) => i_net_parts F x.1 x.2.1) (t := fun (r : (List Int)) => (Enc.enc (r : (List Int)))) (x0, x1, ()) h
theorem o92 {D : Den} {σ : Sig} {F : Nat} (hF : Fits2 Try.prog D σ) (H : H92 D σ F) : (e92 F).Ok Try.prog := by
  refine ⟨fun args r h => ?_, ⟨Try.f92, Try.func92, rfl, rfl⟩⟩
  obtain ⟨⟨x0, x1, _⟩, y, rfl, hy, rfl⟩ := da_open h
  exact contract_run hF (by kernel_rfl) Try.func92 rfl c92 (show 2 ≤ Try.f92.ntmps by decide) (t92 H x0 x1 _ ⟨rfl, rfl⟩ hy)
/- (loop.example/g01109/impl.net).touch -/
def A95_1 : AC := (AC.seq (AC.reg [] [(I.mk (some 7) none false (X.v (A.load (Sh.ag [Sh.p]) (O.t 3)))), (I.mk (some 8) none false (X.v (A.mov (O.t 1)))), (I.mk (some 9) none false (X.call (O.k (V.fn 123 [] [])) [(O.t 7), (O.t 8)])), (I.mk (some 10) none false (X.v (A.mov (O.t 2)))), (I.mk (some 11) none false (X.v (A.bin BinOp.and (O.t 9) (O.t 10)))), (I.mk (some 12) none false (X.v (A.bin BinOp.neq (O.t 11) (O.k (V.int IntKind.i64 (Int.ofNat 0)))))), (I.mk (some 6) none false (X.v (A.mov (O.t 12))))] []) AC.ret)
def A95 : AC := (AC.seq (AC.reg [.clr [3]] [(I.mk (some 3) none false (X.box (O.t 0))), (I.mk (some 6) none false (X.v (A.mov (O.k (V.bool false)))))] []) A95_1)
def an95 : List An := [{ id := 0, pre := [.clr [3]], ep := [], lin := [], sp := [] }]
theorem c95 : cC Try.prog Try.f95.ntmps an95 (Try.f95.body.getD .skip) = some A95 := by kernel_rfl
structure H95 (D : Den) (σ : Sig) (F : Nat) : Prop where
  c123 : ∀ (x0 : (S1 (List Int))) (x1 : Int) r, i_net_around F x0 x1 = some r → D 123 [Enc.enc x0, Enc.enc x1] = some (Enc.enc (r : Int))
  g123 : σ 123 = some (0, false)
abbrev R95 (r : Bool) : (Nat → V) → Prop := RR Try.prog [.tmp 6] 0 false (Enc.enc (r : Bool))
section
variable {D : Den} {σ : Sig} {F : Nat} {r : Bool}
def i_net_touch (F : Nat) (w_1 : (S1 (List Int))) (a_2 : Int) (b_3 : Int) : Option Bool :=
  (i_net_around F w_1 a_2).bind fun r_4 =>
  some ((iand .i64 r_4 b_3) != 0)
theorem t95 (H : H95 D σ F) (w_1 : (S1 (List Int))) (a_2 : Int) (b_3 : Int) (s : Nat → V) (hs : Facts [(0, (.agg [(Enc.enc (w_1.a : List Int))])), (1, (.int .i64 a_2)), (2, (.int .i64 b_3))] s) (h : i_net_touch F w_1 a_2 b_3 = some r) : Run D σ (R95 r) (.run A95 []) s := by
  unfold i_net_touch at h
  obtain ⟨h0, h1, h2⟩ := hs
  refine .seq ?_
  refine run_reg ?_
  refine e_clr ?_
  refine e_end ?_
  refine g_box (.agg [(Enc.enc (w_1.a : List Int))]) (rd_of (keep_clear (s := s) (pk := [3]) h0 rfl (map_agg (maps_cons (Enc.map_enc _ (w_1.a : List Int)) maps_nil))) rfl) (gone_clear (s := s) (pk := [3]) (t := 3) rfl) rfl ?_
  refine g_v0 (.bool false) rfl rfl ?_
  refine g_end ?_
  refine e_end ?_
  refine renew [(1, (.int .i64 a_2)), (2, (.int .i64 b_3)), (3, (.ref (.bx 3) 0 [] (.agg [(Enc.enc (w_1.a : List Int))]))), (6, (.bool false))] ⟨(keep_clear (s := s) (pk := [3]) h1 rfl rfl), (keep_clear (s := s) (pk := [3]) h2 rfl rfl), rfl, rfl⟩ ?_
  rintro s ⟨h1, h2, h3, h6⟩
  refine .nsq ?_
  refine .seq ?_
  refine run_reg ?_
  refine e_end ?_
  refine g_v1 (t := 3) (u := (.ref (.bx 3) 0 [] (.agg [(Enc.enc (w_1.a : List Int))]))) (.agg [(Enc.enc (w_1.a : List Int))]) h3 rfl rfl ?_
  refine g_v1 (t := 1) (u := (.int .i64 a_2)) (.int .i64 a_2) h1 rfl rfl ?_
  obtain ⟨r_4, E_r_4, h⟩ := bind_some h
  refine g_call (m := 0) (al := false) (r := (Enc.enc (r_4 : Int))) [Enc.enc (w_1 : (S1 (List Int))), Enc.enc (a_2 : Int)] (ta_cons (v := (.agg [(Enc.enc (w_1.a : List Int))])) rfl rfl (Enc.erase_enc (w_1 : (S1 (List Int)))) (ta_cons (v := (.int .i64 a_2)) rfl rfl rfl ta_nil)) (H.c123 _ _ _ E_r_4) H.g123 rfl rfl rfl rfl ?_
  refine g_v1 (t := 2) (u := (.int .i64 b_3)) (.int .i64 b_3) h2 rfl rfl ?_
  refine g_v2 (t1 := 9) (t2 := 10) (u1 := (.int .i64 r_4)) (u2 := (.int .i64 b_3)) (.int .i64 (iand .i64 r_4 b_3)) rfl rfl rfl rfl ?_
  refine g_v1 (t := 11) (u := (.int .i64 (iand .i64 r_4 b_3))) (.bool ((iand .i64 r_4 b_3) != 0)) rfl rfl rfl ?_
  refine g_v1 (t := 12) (u := (.bool ((iand .i64 r_4 b_3) != 0))) (.bool ((iand .i64 r_4 b_3) != 0)) rfl rfl rfl ?_
  refine g_end ?_
  refine e_end ?_
  refine renew [(6, (.bool ((iand .i64 r_4 b_3) != 0)))] rfl ?_
  rintro s h6
  refine .nsq ?_
  refine .ret ?_
  have hr := Option.some.inj h
  subst hr
  exact rrA (res_tmp h6) rfl
end
def e95 (F : Nat) : Ent := ⟨95, da (fun (x : ((S1 (List Int)) × Int × Int × Unit)) => i_net_touch F x.1 x.2.1 x.2.2.1) (fun (r : Bool) => (Enc.enc (r : Bool))), 0, false, selF []⟩
theorem p95 {F : Nat} {x0 : (S1 (List Int))} {x1 : Int} {x2 : Int} {r : Bool} (h : i_net_touch F x0 x1 x2 = some r) : (e95 F).den [Enc.enc x0, Enc.enc x1, Enc.enc x2] = some (Enc.enc (r : Bool)) := da_put (f := fun (x : ((S1 (List Int)) × Int × Int × Unit)) => i_net_touch F x.1 x.2.1 x.2.2.1) (t := fun (r : Bool) => (Enc.enc (r : Bool))) (x0, x1, x2, ()) h
theorem o95 {D : Den} {σ : Sig} {F : Nat} (hF : Fits2 Try.prog D σ) (H : H95 D σ F) : (e95 F).Ok Try.prog := by
  refine ⟨fun args r h => ?_, ⟨Try.f95, Try.func95, rfl, rfl⟩⟩
  obtain ⟨⟨x0, x1, x2, _⟩, y, rfl, hy, rfl⟩ := da_open h
  exact contract_run hF (by kernel_rfl) Try.func95 rfl c95 (show 3 ≤ Try.f95.ntmps by decide) (t95 H x0 x1 x2 _ ⟨rfl, rfl, rfl⟩ hy)
/- loop.example/g01109/impl.isBramble$1 -/
def A94_1 : AC := (AC.seq (AC.reg [] [(I.mk (some 5) none false (X.v (A.load (Sh.ag [Sh.p]) (O.t 1)))), (I.mk (some 6) none false (X.v (A.load Sh.p (O.t 2)))), (I.mk (some 7) none false (X.call (O.k (V.fn 93 [] [])) [(O.t 6)])), (I.mk (some 8) none false (X.v (A.mov (O.t 0)))), (I.mk (some 9) none false (X.call (O.k (V.fn 93 [] [])) [(O.t 8)])), (I.mk (some 10) none false (X.call (O.k (V.fn 95 [] [])) [(O.t 5), (O.t 7), (O.t 9)])), (I.mk (some 11) none false (X.v (A.un UnOp.not (O.t 10)))), (I.mk (some 4) none false (X.v (A.mov (O.t 11))))] []) AC.ret)
def A94 : AC := (AC.seq (AC.reg [] [(I.mk (some 4) none false (X.v (A.mov (O.k (V.bool false)))))] []) A94_1)
def an94 : List An := []
theorem c94 : cC Try.prog Try.f94.ntmps an94 (Try.f94.body.getD .skip) = some A94 := by kernel_rfl
structure H94 (D : Den) (σ : Sig) (F : Nat) : Prop where
  c93 : ∀ (x0 : (List Int)) r, i_maskOf F x0 = some r → D 93 [Enc.enc x0] = some (Enc.enc (r : Int))
  g93 : σ 93 = some (0, false)
  c95 : ∀ (x0 : (S1 (List Int))) (x1 : Int) (x2 : Int) r, i_net_touch F x0 x1 x2 = some r → D 95 [Enc.enc x0, Enc.enc x1, Enc.enc x2] = some (Enc.enc (r : Bool))
  g95 : σ 95 = some (0, false)
abbrev R94 (r : Bool) : (Nat → V) → Prop := RR Try.prog [.tmp 4] 0 false (Enc.enc (r : Bool))
section
variable {D : Den} {σ : Sig} {F : Nat} {r : Bool}
def i_isBramble_1 (F : Nat) (other_1 : (List Int)) (rf_2 : (Rf (S1 (List Int)))) (rf_3 : (Rf (List Int))) : Option Bool :=
  (i_maskOf F rf_3.v).bind fun r_4 =>
  (i_maskOf F other_1).bind fun r_5 =>
  (i_net_touch F rf_2.v r_4 r_5).bind fun r_6 =>
  some (!r_6)
theorem t94 (H : H94 D σ F) (other_1 : (List Int)) (rf_2 : (Rf (S1 (List Int)))) (rf_3 : (Rf (List Int))) (s : Nat → V) (hs : Facts [(0, (Enc.enc (other_1 : List Int))), (1, (.ref .sh 0 [] (.agg [(Enc.enc (rf_2.v.a : List Int))]))), (2, (.ref .sh 0 [] (Enc.enc (rf_3.v : List Int))))] s) (h : i_isBramble_1 F other_1 rf_2 rf_3 = some r) : Run D σ (R94 r) (.run A94 []) s := by
  unfold i_isBramble_1 at h
  obtain ⟨h0, h1, h2⟩ := hs
  refine .seq ?_
  refine run_reg ?_
  refine e_end ?_
  refine g_v0 (.bool false) rfl rfl ?_
  refine g_end ?_
  refine e_end ?_
  refine renew [(0, (Enc.enc (other_1 : List Int))), (1, (.ref .sh 0 [] (.agg [(Enc.enc (rf_2.v.a : List Int))]))), (2, (.ref .sh 0 [] (Enc.enc (rf_3.v : List Int)))), (4, (.bool false))] ⟨h0, h1, h2, rfl⟩ ?_
  rintro s ⟨h0, h1, h2, h4⟩
  refine .nsq ?_
  refine .seq ?_
  refine run_reg ?_
  refine e_end ?_
  refine g_v1 (t := 1) (u := (.ref .sh 0 [] (.agg [(Enc.enc (rf_2.v.a : List Int))]))) (.agg [(Enc.enc (rf_2.v.a : List Int))]) h1 rfl rfl ?_
  refine g_v1 (t := 2) (u := (.ref .sh 0 [] (Enc.enc (rf_3.v : List Int)))) (Enc.enc (rf_3.v : List Int)) h2 rfl rfl ?_
  obtain ⟨r_4, E_r_4, h⟩ := bind_some h
  refine g_call (m := 0) (al := false) (r := (Enc.enc (r_4 : Int))) [Enc.enc (rf_3.v : (List Int))] (ta_cons (v := (Enc.enc (rf_3.v : List Int))) rfl rfl (Enc.erase_enc (rf_3.v : (List Int))) ta_nil) (H.c93 _ _ E_r_4) H.g93 rfl rfl rfl rfl ?_
  refine g_v1 (t := 0) (u := (Enc.enc (other_1 : List Int))) (Enc.enc (other_1 : List Int)) h0 rfl rfl ?_
  obtain ⟨r_5, E_r_5, h⟩ := bind_some h
  refine g_call (m := 0) (al := false) (r := (Enc.enc (r_5 : Int))) [Enc.enc (other_1 : (List Int))] (ta_cons (v := (Enc.enc (other_1 : List Int))) rfl rfl (Enc.erase_enc (other_1 : (List Int))) ta_nil) (H.c93 _ _ E_r_5) H.g93 rfl rfl rfl rfl ?_
  obtain ⟨r_6, E_r_6, h⟩ := bind_some h
  refine g_call (m := 0) (al := false) (r := (Enc.enc (r_6 : Bool))) [Enc.enc (rf_2.v : (S1 (List Int))), Enc.enc (r_4 : Int), Enc.enc (r_5 : Int)] (ta_cons (v := (.agg [(Enc.enc (rf_2.v.a : List Int))])) rfl rfl (Enc.erase_enc (rf_2.v : (S1 (List Int)))) (ta_cons (v := (.int .i64 r_4)) rfl rfl rfl (ta_cons (v := (.int .i64 r_5)) rfl rfl rfl ta_nil))) (H.c95 _ _ _ _ E_r_6) H.g95 rfl rfl rfl rfl ?_
  refine g_v1 (t := 10) (u := (.bool r_6)) (.bool (!r_6)) rfl rfl rfl ?_
  refine g_v1 (t := 11) (u := (.bool (!r_6))) (.bool (!r_6)) rfl rfl rfl ?_
  refine g_end ?_
  refine e_end ?_
  refine renew [(4, (.bool (!r_6)))] rfl ?_
  rintro s h4
  refine .nsq ?_
  refine .ret ?_
  have hr := Option.some.inj h
  subst hr
  exact rrA (res_tmp h4) rfl
end
def e94 (F : Nat) : Ent := ⟨94, da (fun (x : ((List Int) × (Rf (S1 (List Int))) × (Rf (List Int)) × Unit)) => i_isBramble_1 F x.1 x.2.1 x.2.2.1) (fun (r : Bool) => (Enc.enc (r : Bool))), 0, false, selF []⟩
theorem p94 {F : Nat} {x0 : (List Int)} {x1 : (Rf (S1 (List Int)))} {x2 : (Rf (List Int))} {r : Bool} (h : i_isBramble_1 F x0 x1 x2 = some r) : (e94 F).den [Enc.enc x0, Arg.arg x1, Arg.arg x2] = some (Enc.enc (r : Bool)) := da_put (f := fun (x : ((List Int) × (Rf (S1 (List Int))) × (Rf (List Int)) × Unit)) => i_isBramble_1 F x.1 x.2.1 x.2.2.1) (t := fun (r : Bool) => (Enc.enc (r : Bool))) (x0, x1, x2, ()) h
theorem o94 {D : Den} {σ : Sig} {F : Nat} (hF : Fits2 Try.prog D σ) (H : H94 D σ F) : (e94 F).Ok Try.prog := by
  refine ⟨fun args r h => ?_, ⟨Try.f94, Try.func94, rfl, rfl⟩⟩
  obtain ⟨⟨x0, x1, x2, _⟩, y, rfl, hy, rfl⟩ := da_open h
  exact contract_run hF (by kernel_rfl) Try.func94 rfl c94 (show 3 ≤ Try.f94.ntmps by decide) (t94 H x0 x1 x2 _ ⟨rfl, rfl, rfl⟩ hy)
/- slices.IndexFunc[[][]int,[]int] -/
def A115s1_5 : AC := (AC.cond (O.t 16) (AC.seq (AC.reg [] [(I.mk (some 17) none false (X.v (A.mov (O.t 5)))), (I.mk (some 4) none false (X.v (A.mov (O.t 17))))] []) AC.ret) AC.skip)
def A115s1_4 : AC := (AC.seq (AC.reg [] [(I.mk (some 11) none false (X.v (A.mov (O.t 1)))), (I.mk (some 12) none false (X.v (A.mov (O.t 0)))), (I.mk (some 13) none false (X.v (A.mov (O.t 5)))), (I.mk (some 14) none false (X.v (A.idx (O.t 12) (O.t 13) 1))), (I.mk (some 15) none false (X.v (A.load Sh.p (O.t 14)))), (I.mk (some 16) none false (X.call (O.t 11) [(O.t 15)]))] []) A115s1_5)
def A115s1_6 : AC := (AC.reg [] [(I.mk (some 18) none false (X.v (A.bin BinOp.add (O.t 8) (O.k (V.int IntKind.i64 (Int.ofNat 1)))))), (I.mk (some 8) none false (X.v (A.mov (O.t 18))))] [])
def A115s1_3 : AC := (AC.seq (AC.block 1 (AC.seq (AC.reg [] [(I.mk (some 10) none false (X.v (A.mov (O.t 8)))), (I.mk (some 5) none false (X.v (A.mov (O.t 10))))] []) A115s1_4)) A115s1_6)
def A115s1_2 : AC := (AC.seq (AC.cond (O.t 9) AC.skip (AC.exit 0)) A115s1_3)
def A115s1_1 : AC := (AC.seq (AC.reg [] [(I.mk (some 9) none false (X.v (A.bin BinOp.lss (O.t 8) (O.t 7))))] []) A115s1_2)
def A115s1_7 : AC := (AC.seq (AC.reg [] [(I.mk (some 4) none false (X.v (A.mov (O.k (V.int IntKind.i64 (Int.negSucc 0))))))] []) AC.ret)
def A115s1_9 : AC := (AC.block 0 (AC.loop A115s1_1))
def A115s1_8 : AC := (AC.seq (AC.seq (AC.reg [] [(I.mk (some 6) none false (X.v (A.mov (O.t 0)))), (I.mk (some 7) none false (X.v (A.len (O.t 6)))), (I.mk (some 8) none false (X.v (A.mov (O.k (V.int IntKind.i64 (Int.ofNat 0))))))] []) A115s1_9) A115s1_7)
def A115s1 : AC := (AC.seq (AC.reg [] [(I.mk (some 4) none false (X.v (A.mov (O.k (V.int IntKind.i64 (Int.ofNat 0))))))] []) A115s1_8)
def an115s1 : List An := []
theorem c115s1 : cC Try.prog Try.f115.ntmps an115s1 (Try.f115.body.getD .skip) = some A115s1 := by kernel_rfl
structure H115s1 (D : Den) (σ : Sig) (F : Nat) : Prop where
  c94 : ∀ (x0 : (List Int)) (x1 : (Rf (S1 (List Int)))) (x2 : (Rf (List Int))) r, i_isBramble_1 F x0 x1 x2 = some r → D 94 [Enc.enc x0, Arg.arg x1, Arg.arg x2] = some (Enc.enc (r : Bool))
  g94 : σ 94 = some (0, false)
abbrev R115s1 (r : Int) : (Nat → V) → Prop := RR Try.prog [.tmp 4] 0 false (Enc.enc (r : Int))
section
variable {D : Den} {σ : Sig} {F : Nat} {r : Int}
def slices_IndexFunc_int_int_of_i_isBramble_1_l1 (F : Nat) (s_1 : (List (List Int))) (f_2 : (Cl 94 Unit ((Rf (S1 (List Int))) × (Rf (List Int)) × Unit)))  : Nat → Int → Option Int
  | 0, _ => none
  | k + 1, t8_5 =>
    bif decide (t8_5 < (s_1.length : Int)) then
      (idx s_1 t8_5).bind fun e_8 =>
      (i_isBramble_1 F e_8 f_2.env.1 f_2.env.2.1).bind fun r_9 =>
      bif r_9 then
        some t8_5
      else
        (slices_IndexFunc_int_int_of_i_isBramble_1_l1 F s_1 f_2 k) (w64 (t8_5 + 1))
    else
      some (-1)
theorem t_f115s1_l1 (H : H115s1 D σ F) (s_1 : (List (List Int))) (f_2 : (Cl 94 Unit ((Rf (S1 (List Int))) × (Rf (List Int)) × Unit)))  : ∀ (k : Nat) (t8_5 : Int) (s : Nat → V), Facts [(0, (Enc.enc (s_1 : List (List Int)))), (1, (.fn 94 [] [(.ref .sh 0 [] (.agg [(Enc.enc (f_2.env.1.v.a : List Int))])), (.ref .sh 0 [] (Enc.enc (f_2.env.2.1.v : List Int)))])), (4, (.int .i64 0)), (7, (.int .i64 (s_1.length : Int))), (8, (.int .i64 t8_5))] s → slices_IndexFunc_int_int_of_i_isBramble_1_l1 F s_1 f_2 k t8_5 = some r → Run D σ (R115s1 r) (.run A115s1_1 [.lp A115s1_1, .bk 0, .sq A115s1_7]) s := by
  intro k
  induction k with
  | zero => intro t8_5 s _ h; exact nomatch (h : (none : Option _) = some r)
  | succ k ih =>
    intro t8_5 s hs h
    rw [slices_IndexFunc_int_int_of_i_isBramble_1_l1] at h
    obtain ⟨h0, h1, h4, h7, h8⟩ := hs
    refine .seq ?_
    refine run_reg ?_
    refine e_end ?_
    refine g_v2 (t1 := 8) (t2 := 7) (u1 := (.int .i64 t8_5)) (u2 := (.int .i64 (s_1.length : Int))) (.bool (decide (t8_5 < (s_1.length : Int)))) h8 h7 rfl rfl ?_
    refine g_end ?_
    refine e_end ?_
    refine renew [(0, (Enc.enc (s_1 : List (List Int)))), (1, (.fn 94 [] [(.ref .sh 0 [] (.agg [(Enc.enc (f_2.env.1.v.a : List Int))])), (.ref .sh 0 [] (Enc.enc (f_2.env.2.1.v : List Int)))])), (4, (.int .i64 0)), (7, (.int .i64 (s_1.length : Int))), (8, (.int .i64 t8_5)), (9, (.bool (decide (t8_5 < (s_1.length : Int)))))] ⟨h0, h1, h4, h7, h8, rfl⟩ ?_
    rintro s ⟨h0, h1, h4, h7, h8, h9⟩
    refine .nsq ?_
    refine .seq ?_
    refine run_cond (t := decide (t8_5 < (s_1.length : Int))) h9 h (fun h => ?_) (fun h => ?_)
    · refine .skip ?_
      refine .nsq ?_
      refine .seq ?_
      refine .block ?_
      refine .seq ?_
      refine run_reg ?_
      refine e_end ?_
      refine g_v1 (t := 8) (u := (.int .i64 t8_5)) (.int .i64 t8_5) h8 rfl rfl ?_
      refine g_v1 (t := 10) (u := (.int .i64 t8_5)) (.int .i64 t8_5) rfl rfl rfl ?_
      refine g_end ?_
      refine e_end ?_
      refine renew [(0, (Enc.enc (s_1 : List (List Int)))), (1, (.fn 94 [] [(.ref .sh 0 [] (.agg [(Enc.enc (f_2.env.1.v.a : List Int))])), (.ref .sh 0 [] (Enc.enc (f_2.env.2.1.v : List Int)))])), (4, (.int .i64 0)), (5, (.int .i64 t8_5)), (7, (.int .i64 (s_1.length : Int))), (8, (.int .i64 t8_5))] ⟨h0, h1, h4, rfl, h7, h8⟩ ?_
      rintro s ⟨h0, h1, h4, h5, h7, h8⟩
      refine .nsq ?_
      refine .seq ?_
      refine run_reg ?_
      refine e_end ?_
      refine g_v1 (t := 1) (u := (.fn 94 [] [(.ref .sh 0 [] (.agg [(Enc.enc (f_2.env.1.v.a : List Int))])), (.ref .sh 0 [] (Enc.enc (f_2.env.2.1.v : List Int)))])) (.fn 94 [] [(.ref .sh 0 [] (.agg [(Enc.enc (f_2.env.1.v.a : List Int))])), (.ref .sh 0 [] (Enc.enc (f_2.env.2.1.v : List Int)))]) h1 rfl rfl ?_
      refine g_v1 (t := 0) (u := (Enc.enc (s_1 : List (List Int)))) (Enc.enc (s_1 : List (List Int))) h0 rfl rfl ?_
      refine g_v1 (t := 5) (u := (.int .i64 t8_5)) (.int .i64 t8_5) h5 rfl rfl ?_
      obtain ⟨e_8, E_e_8, h⟩ := bind_some h
      refine g_v (.ref .sh 0 [] (Enc.enc (e_8 : List Int))) (ev_idx (t := .sh) (lo := 0) (xs := s_1) rfl rfl E_e_8 rfl rfl) ?_
      refine g_v1 (t := 14) (u := (.ref .sh 0 [] (Enc.enc (e_8 : List Int)))) (Enc.enc (e_8 : List Int)) rfl rfl rfl ?_
      obtain ⟨r_9, E_r_9, h⟩ := bind_some h
      refine g_callF (m := 0) (al := false) (r := (Enc.enc (r_9 : Bool))) (fs := []) (env := [(.ref .sh 0 [] (.agg [(Enc.enc (f_2.env.1.v.a : List Int))])), (.ref .sh 0 [] (Enc.enc (f_2.env.2.1.v : List Int)))]) (us := []) (ws := [Arg.arg (f_2.env.1 : (Rf (S1 (List Int)))), Arg.arg (f_2.env.2.1 : (Rf (List Int)))]) rfl erases_nil (erases_cons (erase_ref (Enc.erase_enc (f_2.env.1.v : (S1 (List Int))))) (erases_cons (erase_ref (Enc.erase_enc (f_2.env.2.1.v : (List Int)))) erases_nil)) rfl [Enc.enc (e_8 : (List Int))] (ta_cons (v := (Enc.enc (e_8 : List Int))) rfl rfl (Enc.erase_enc (e_8 : (List Int))) ta_nil) (H.c94 _ _ _ _ E_r_9) H.g94 rfl rfl rfl rfl ?_
      refine g_end ?_
      refine e_end ?_
      refine renew [(0, (Enc.enc (s_1 : List (List Int)))), (1, (.fn 94 [] [(.ref .sh 0 [] (.agg [(Enc.enc (f_2.env.1.v.a : List Int))])), (.ref .sh 0 [] (Enc.enc (f_2.env.2.1.v : List Int)))])), (4, (.int .i64 0)), (5, (.int .i64 t8_5)), (7, (.int .i64 (s_1.length : Int))), (8, (.int .i64 t8_5)), (16, (.bool r_9))] ⟨h0, h1, h4, h5, h7, h8, rfl⟩ ?_
      rintro s ⟨h0, h1, h4, h5, h7, h8, h16⟩
      refine .nsq ?_
      refine run_cond (t := r_9) h16 h (fun h => ?_) (fun h => ?_)
      · refine .seq ?_
        refine run_reg ?_
        refine e_end ?_
        refine g_v1 (t := 5) (u := (.int .i64 t8_5)) (.int .i64 t8_5) h5 rfl rfl ?_
        refine g_v1 (t := 17) (u := (.int .i64 t8_5)) (.int .i64 t8_5) rfl rfl rfl ?_
        refine g_end ?_
        refine e_end ?_
        refine renew [(0, (Enc.enc (s_1 : List (List Int)))), (1, (.fn 94 [] [(.ref .sh 0 [] (.agg [(Enc.enc (f_2.env.1.v.a : List Int))])), (.ref .sh 0 [] (Enc.enc (f_2.env.2.1.v : List Int)))])), (4, (.int .i64 t8_5)), (7, (.int .i64 (s_1.length : Int))), (8, (.int .i64 t8_5))] ⟨h0, h1, rfl, h7, h8⟩ ?_
        rintro s ⟨h0, h1, h4, h7, h8⟩
        refine .nsq ?_
        refine .ret ?_
        have hr := Option.some.inj h
        subst hr
        exact rrA (res_tmp h4) rfl
      · refine .skip ?_
        refine .nbk ?_
        refine .nsq ?_
        refine run_reg ?_
        refine e_end ?_
        refine g_v1 (t := 8) (u := (.int .i64 t8_5)) (.int .i64 (w64 (t8_5 + 1))) h8 rfl rfl ?_
        refine g_v1 (t := 18) (u := (.int .i64 (w64 (t8_5 + 1)))) (.int .i64 (w64 (t8_5 + 1))) rfl rfl rfl ?_
        refine g_end ?_
        refine e_end ?_
        refine renew [(0, (Enc.enc (s_1 : List (List Int)))), (1, (.fn 94 [] [(.ref .sh 0 [] (.agg [(Enc.enc (f_2.env.1.v.a : List Int))])), (.ref .sh 0 [] (Enc.enc (f_2.env.2.1.v : List Int)))])), (4, (.int .i64 0)), (7, (.int .i64 (s_1.length : Int))), (8, (.int .i64 (w64 (t8_5 + 1))))] ⟨h0, h1, h4, h7, rfl⟩ ?_
        rintro s ⟨h0, h1, h4, h7, h8⟩
        refine .nlp ?_
        exact ih (w64 (t8_5 + 1)) _ ⟨h0, h1, h4, h7, h8⟩ h
    · refine .exit ?_
      refine .esq ?_
      refine .elp ?_
      refine .ebk ?_
      refine .nsq ?_
      refine .seq ?_
      refine run_reg ?_
      refine e_end ?_
      refine g_v0 (.int .i64 (-1)) rfl rfl ?_
      refine g_end ?_
      refine e_end ?_
      refine renew [(4, (.int .i64 (-1)))] rfl ?_
      rintro s h4
      refine .nsq ?_
      refine .ret ?_
      have hr := Option.some.inj h
      subst hr
      exact rrA (res_tmp h4) rfl
def slices_IndexFunc_int_int_of_i_isBramble_1 (F : Nat) (s_1 : (List (List Int))) (f_2 : (Cl 94 Unit ((Rf (S1 (List Int))) × (Rf (List Int)) × Unit))) : Option Int :=
  slices_IndexFunc_int_int_of_i_isBramble_1_l1 F s_1 f_2 F 0
theorem t115s1 (H : H115s1 D σ F) (s_1 : (List (List Int))) (f_2 : (Cl 94 Unit ((Rf (S1 (List Int))) × (Rf (List Int)) × Unit))) (s : Nat → V) (hs : Facts [(0, (Enc.enc (s_1 : List (List Int)))), (1, (.fn 94 [] [(.ref .sh 0 [] (.agg [(Enc.enc (f_2.env.1.v.a : List Int))])), (.ref .sh 0 [] (Enc.enc (f_2.env.2.1.v : List Int)))]))] s) (h : slices_IndexFunc_int_int_of_i_isBramble_1 F s_1 f_2 = some r) : Run D σ (R115s1 r) (.run A115s1 []) s := by
  unfold slices_IndexFunc_int_int_of_i_isBramble_1 at h
  obtain ⟨h0, h1⟩ := hs
  refine .seq ?_
  refine run_reg ?_
  refine e_end ?_
  refine g_v0 (.int .i64 0) rfl rfl ?_
  refine g_end ?_
  refine e_end ?_
  refine renew [(0, (Enc.enc (s_1 : List (List Int)))), (1, (.fn 94 [] [(.ref .sh 0 [] (.agg [(Enc.enc (f_2.env.1.v.a : List Int))])), (.ref .sh 0 [] (Enc.enc (f_2.env.2.1.v : List Int)))])), (4, (.int .i64 0))] ⟨h0, h1, rfl⟩ ?_
  rintro s ⟨h0, h1, h4⟩
  refine .nsq ?_
  refine .seq ?_
  refine .seq ?_
  refine run_reg ?_
  refine e_end ?_
  refine g_v1 (t := 0) (u := (Enc.enc (s_1 : List (List Int)))) (Enc.enc (s_1 : List (List Int))) h0 rfl rfl ?_
  refine g_v (.int .i64 (s_1.length : Int)) (ev_len (xs := s_1) rfl) ?_
  refine g_v0 (.int .i64 0) rfl rfl ?_
  refine g_end ?_
  refine e_end ?_
  refine renew [(0, (Enc.enc (s_1 : List (List Int)))), (1, (.fn 94 [] [(.ref .sh 0 [] (.agg [(Enc.enc (f_2.env.1.v.a : List Int))])), (.ref .sh 0 [] (Enc.enc (f_2.env.2.1.v : List Int)))])), (4, (.int .i64 0)), (7, (.int .i64 (s_1.length : Int))), (8, (.int .i64 0))] ⟨h0, h1, h4, rfl, rfl⟩ ?_
  rintro s ⟨h0, h1, h4, h7, h8⟩
  refine .nsq ?_
  refine .block ?_
  refine .loop ?_
  exact t_f115s1_l1 H s_1 f_2 F 0 _ ⟨h0, h1, h4, h7, h8⟩ h
end
def e115s1 (F : Nat) : Ent := ⟨115, da (fun (x : ((List (List Int)) × (Cl 94 Unit ((Rf (S1 (List Int))) × (Rf (List Int)) × Unit)) × Unit)) => slices_IndexFunc_int_int_of_i_isBramble_1 F x.1 x.2.1) (fun (r : Int) => (Enc.enc (r : Int))), 0, false, selF [(1, 94)]⟩
theorem p115s1 {F : Nat} {x0 : (List (List Int))} {x1 : (Cl 94 Unit ((Rf (S1 (List Int))) × (Rf (List Int)) × Unit))} {r : Int} (h : slices_IndexFunc_int_int_of_i_isBramble_1 F x0 x1 = some r) : (e115s1 F).den [Enc.enc x0, Arg.arg x1] = some (Enc.enc (r : Int)) := da_put (f := fun (x : ((List (List Int)) × (Cl 94 Unit ((Rf (S1 (List Int))) × (Rf (List Int)) × Unit)) × Unit)) => slices_IndexFunc_int_int_of_i_isBramble_1 F x.1 x.2.1) (t := fun (r : Int) => (Enc.enc (r : Int))) (x0, x1, ()) h
theorem o115s1 {D : Den} {σ : Sig} {F : Nat} (hF : Fits2 Try.prog D σ) (H : H115s1 D σ F) : (e115s1 F).Ok Try.prog := by
  refine ⟨fun args r h => ?_, ⟨Try.f115, Try.func115, rfl, rfl⟩⟩
  obtain ⟨⟨x0, x1, _⟩, y, rfl, hy, rfl⟩ := da_open h
  exact contract_run hF (by kernel_rfl) Try.func115 rfl c115s1 (show 2 ≤ Try.f115.ntmps by decide) (t115s1 H x0 x1 _ ⟨rfl, rfl⟩ hy)
/- slices.ContainsFunc[[][]int,[]int] -/
def A82s1_1 : AC := (AC.seq (AC.reg [] [(I.mk (some 5) none false (X.v (A.mov (O.t 0)))), (I.mk (some 6) none false (X.v (A.mov (O.t 1)))), (I.mk (some 7) none false (X.call (O.k (V.fn 115 [] [])) [(O.t 5), (O.t 6)])), (I.mk (some 8) none false (X.v (A.bin BinOp.geq (O.t 7) (O.k (V.int IntKind.i64 (Int.ofNat 0)))))), (I.mk (some 4) none false (X.v (A.mov (O.t 8))))] []) AC.ret)
def A82s1 : AC := (AC.seq (AC.reg [] [(I.mk (some 4) none false (X.v (A.mov (O.k (V.bool false)))))] []) A82s1_1)
def an82s1 : List An := []
theorem c82s1 : cC Try.prog Try.f82.ntmps an82s1 (Try.f82.body.getD .skip) = some A82s1 := by kernel_rfl
structure H82s1 (D : Den) (σ : Sig) (F : Nat) : Prop where
  c115s1 : ∀ (x0 : (List (List Int))) (x1 : (Cl 94 Unit ((Rf (S1 (List Int))) × (Rf (List Int)) × Unit))) r, slices_IndexFunc_int_int_of_i_isBramble_1 F x0 x1 = some r → D 115 [Enc.enc x0, Arg.arg x1] = some (Enc.enc (r : Int))
  g115s1 : σ 115 = some (0, false)
abbrev R82s1 (r : Bool) : (Nat → V) → Prop := RR Try.prog [.tmp 4] 0 false (Enc.enc (r : Bool))
section
variable {D : Den} {σ : Sig} {F : Nat} {r : Bool}
def slices_ContainsFunc_int_int_of_i_isBramble_1 (F : Nat) (s_1 : (List (List Int))) (f_2 : (Cl 94 Unit ((Rf (S1 (List Int))) × (Rf (List Int)) × Unit))) : Option Bool :=
  (slices_IndexFunc_int_int_of_i_isBramble_1 F s_1 f_2).bind fun r_3 =>
  some (decide (r_3 ≥ 0))
theorem t82s1 (H : H82s1 D σ F) (s_1 : (List (List Int))) (f_2 : (Cl 94 Unit ((Rf (S1 (List Int))) × (Rf (List Int)) × Unit))) (s : Nat → V) (hs : Facts [(0, (Enc.enc (s_1 : List (List Int)))), (1, (.fn 94 [] [(.ref .sh 0 [] (.agg [(Enc.enc (f_2.env.1.v.a : List Int))])), (.ref .sh 0 [] (Enc.enc (f_2.env.2.1.v : List Int)))]))] s) (h : slices_ContainsFunc_int_int_of_i_isBramble_1 F s_1 f_2 = some r) : Run D σ (R82s1 r) (.run A82s1 []) s := by
  unfold slices_ContainsFunc_int_int_of_i_isBramble_1 at h
  obtain ⟨h0, h1⟩ := hs
  refine .seq ?_
  refine run_reg ?_
  refine e_end ?_
  refine g_v0 (.bool false) rfl rfl ?_
  refine g_end ?_
  refine e_end ?_
  refine renew [(0, (Enc.enc (s_1 : List (List Int)))), (1, (.fn 94 [] [(.ref .sh 0 [] (.agg [(Enc.enc (f_2.env.1.v.a : List Int))])), (.ref .sh 0 [] (Enc.enc (f_2.env.2.1.v : List Int)))])), (4, (.bool false))] ⟨h0, h1, rfl⟩ ?_
  rintro s ⟨h0, h1, h4⟩
  refine .nsq ?_
  refine .seq ?_
  refine run_reg ?_
  refine e_end ?_
  refine g_v1 (t := 0) (u := (Enc.enc (s_1 : List (List Int)))) (Enc.enc (s_1 : List (List Int))) h0 rfl rfl ?_
  refine g_v1 (t := 1) (u := (.fn 94 [] [(.ref .sh 0 [] (.agg [(Enc.enc (f_2.env.1.v.a : List Int))])), (.ref .sh 0 [] (Enc.enc (f_2.env.2.1.v : List Int)))])) (.fn 94 [] [(.ref .sh 0 [] (.agg [(Enc.enc (f_2.env.1.v.a : List Int))])), (.ref .sh 0 [] (Enc.enc (f_2.env.2.1.v : List Int)))]) h1 rfl rfl ?_
  obtain ⟨r_3, E_r_3, h⟩ := bind_some h
  refine g_call (m := 0) (al := false) (r := (Enc.enc (r_3 : Int))) [Enc.enc (s_1 : (List (List Int))), Arg.arg (f_2 : (Cl 94 Unit ((Rf (S1 (List Int))) × (Rf (List Int)) × Unit)))] (ta_cons (v := (Enc.enc (s_1 : List (List Int)))) rfl rfl (Enc.erase_enc (s_1 : (List (List Int)))) (ta_cons (v := (.fn 94 [] [(.ref .sh 0 [] (.agg [(Enc.enc (f_2.env.1.v.a : List Int))])), (.ref .sh 0 [] (Enc.enc (f_2.env.2.1.v : List Int)))])) rfl rfl (erase_fn erases_nil (erases_cons (erase_ref (Enc.erase_enc (f_2.env.1.v : (S1 (List Int))))) (erases_cons (erase_ref (Enc.erase_enc (f_2.env.2.1.v : (List Int)))) erases_nil))) ta_nil)) (H.c115s1 _ _ _ E_r_3) H.g115s1 rfl rfl rfl rfl ?_
  refine g_v1 (t := 7) (u := (.int .i64 r_3)) (.bool (decide (r_3 ≥ 0))) rfl rfl rfl ?_
  refine g_v1 (t := 8) (u := (.bool (decide (r_3 ≥ 0)))) (.bool (decide (r_3 ≥ 0))) rfl rfl rfl ?_
  refine g_end ?_
  refine e_end ?_
  refine renew [(4, (.bool (decide (r_3 ≥ 0))))] rfl ?_
  rintro s h4
  refine .nsq ?_
  refine .ret ?_
  have hr := Option.some.inj h
  subst hr
  exact rrA (res_tmp h4) rfl
end
def e82s1 (F : Nat) : Ent := ⟨82, da (fun (x : ((List (List Int)) × (Cl 94 Unit ((Rf (S1 (List Int))) × (Rf (List Int)) × Unit)) × Unit)) => slices_ContainsFunc_int_int_of_i_isBramble_1 F x.1 x.2.1) (fun (r : Bool) => (Enc.enc (r : Bool))), 0, false, selF [(1, 94)]⟩
theorem p82s1 {F : Nat} {x0 : (List (List Int))} {x1 : (Cl 94 Unit ((Rf (S1 (List Int))) × (Rf (List Int)) × Unit))} {r : Bool} (h : slices_ContainsFunc_int_int_of_i_isBramble_1 F x0 x1 = some r) : (e82s1 F).den [Enc.enc x0, Arg.arg x1] = some (Enc.enc (r : Bool)) := da_put (f := fun (x : ((List (List Int)) × (Cl 94 Unit ((Rf (S1 (List Int))) × (Rf (List Int)) × Unit)) × Unit)) => slices_ContainsFunc_int_int_of_i_isBramble_1 F x.1 x.2.1) (t := fun (r : Bool) => (Enc.enc (r : Bool))) (x0, x1, ()) h
theorem o82s1 {D : Den} {σ : Sig} {F : Nat} (hF : Fits2 Try.prog D σ) (H : H82s1 D σ F) : (e82s1 F).Ok Try.prog := by
  refine ⟨fun args r h => ?_, ⟨Try.f82, Try.func82, rfl, rfl⟩⟩
  obtain ⟨⟨x0, x1, _⟩, y, rfl, hy, rfl⟩ := da_open h
  exact contract_run hF (by kernel_rfl) Try.func82 rfl c82s1 (show 2 ≤ Try.f82.ntmps by decide) (t82s1 H x0 x1 _ ⟨rfl, rfl⟩ hy)
/- loop.example/g01109/impl.isBramble -/
def A56_5 : AC := (AC.cond (O.t 28) (AC.seq (AC.reg [] [(I.mk (some 4) none false (X.v (A.mov (O.k (V.bool false)))))] []) AC.ret) AC.skip)
def A56_7 : AC := (AC.cond (O.t 33) (AC.seq (AC.reg [] [(I.mk (some 4) none false (X.v (A.mov (O.k (V.bool false)))))] []) AC.ret) AC.skip)
def A56_6 : AC := (AC.seq (AC.reg [] [(I.mk (some 29) none false (X.v (A.mov (O.t 1)))), (I.mk (some 30) none false (X.v (A.mov (O.t 6)))), (I.mk (some 31) none false (X.v (A.slice (O.t 29) none (some (O.t 30)) 1))), (I.mk (some 32) none false (X.v (A.fn 94 [] [(O.t 5), (O.t 7)]))), (I.mk (some 33) none false (X.call (O.k (V.fn 82 [] [])) [(O.t 31), (O.t 32)]))] []) A56_7)
def A56_4 : AC := (AC.seq (AC.seq (AC.reg [] [(I.mk (some 17) none false (X.v (A.load (Sh.ag [Sh.s, Sh.p]) (O.t 2)))), (I.mk (some 18) none false (X.v (A.load Sh.p (O.t 7)))), (I.mk (some 19) none false (X.call (O.k (V.fn 84 [] [])) [(O.t 17), (O.t 18)])), (I.mk (some 20) none false (X.v (A.un UnOp.not (O.t 19)))), (I.mk (some 21) none false (X.v (A.mov (O.t 20)))), (I.mk (some 22) (some (21, false)) false (X.v (A.load (Sh.ag [Sh.p]) (O.t 5)))), (I.mk (some 23) (some (21, false)) false (X.v (A.load Sh.p (O.t 7)))), (I.mk (some 24) (some (21, false)) false (X.call (O.k (V.fn 93 [] [])) [(O.t 23)])), (I.mk (some 25) (some (21, false)) false (X.call (O.k (V.fn 92 [] [])) [(O.t 22), (O.t 24)])), (I.mk (some 26) (some (21, false)) false (X.v (A.len (O.t 25)))), (I.mk (some 27) (some (21, false)) false (X.v (A.bin BinOp.neq (O.t 26) (O.k (V.int IntKind.i64 (Int.ofNat 1)))))), (I.mk (some 28) none false (X.v (A.pick (O.t 21) (O.k (V.bool true)) (O.t 27))))] []) A56_5) A56_6)
def A56_8 : AC := (AC.reg [] [(I.mk (some 34) none false (X.v (A.bin BinOp.add (O.t 12) (O.k (V.int IntKind.i64 (Int.ofNat 1)))))), (I.mk (some 12) none false (X.v (A.mov (O.t 34))))] [])
def A56_3 : AC := (AC.seq (AC.block 1 (AC.seq (AC.reg [.clr [7]] [(I.mk (some 14) none false (X.v (A.mov (O.t 12)))), (I.mk (some 15) none false (X.v (A.idx (O.t 10) (O.t 12) 1))), (I.mk (some 16) none false (X.v (A.load Sh.p (O.t 15)))), (I.mk (some 7) none false (X.alloc (V.sl Tok.nl Sh.s 0 []))), (I.mk (some 6) none false (X.v (A.mov (O.t 14)))), (I.mk none none false (X.store Sh.p (O.t 7) (O.t 16)))] []) A56_4)) A56_8)
def A56_2 : AC := (AC.seq (AC.cond (O.t 13) AC.skip (AC.exit 0)) A56_3)
def A56_1 : AC := (AC.seq (AC.reg [] [(I.mk (some 13) none false (X.v (A.bin BinOp.lss (O.t 12) (O.t 11))))] []) A56_2)
def A56_9 : AC := (AC.seq (AC.reg [] [(I.mk (some 35) none false (X.v (A.mov (O.t 1)))), (I.mk (some 36) none false (X.v (A.len (O.t 35)))), (I.mk (some 37) none false (X.v (A.bin BinOp.gtr (O.t 36) (O.k (V.int IntKind.i64 (Int.ofNat 0)))))), (I.mk (some 4) none false (X.v (A.mov (O.t 37))))] []) AC.ret)
def A56_12 : AC := (AC.block 0 (AC.loop A56_1))
def A56_11 : AC := (AC.seq (AC.seq (AC.reg [] [(I.mk (some 10) none false (X.v (A.mov (O.t 1)))), (I.mk (some 11) none false (X.v (A.len (O.t 10)))), (I.mk (some 12) none false (X.v (A.mov (O.k (V.int IntKind.i64 (Int.ofNat 0))))))] []) A56_12) A56_9)
def A56_10 : AC := (AC.seq (AC.reg [.clr [5]] [(I.mk (some 8) none false (X.v (A.load (Sh.ag [Sh.s, Sh.p]) (O.t 2)))), (I.mk (some 9) none false (X.call (O.k (V.fn 67 [] [])) [(O.t 8)])), (I.mk (some 5) none false (X.alloc (V.agg [(V.sl Tok.nl Sh.s 0 [])]))), (I.mk none none false (X.store (Sh.ag [Sh.p]) (O.t 5) (O.t 9)))] []) A56_11)
def A56 : AC := (AC.seq (AC.reg [.clr [2]] [(I.mk (some 2) none false (X.box (O.t 0))), (I.mk (some 4) none false (X.v (A.mov (O.k (V.bool false)))))] []) A56_10)
def an56 : List An := [{ id := 0, pre := [.clr [2]], ep := [], lin := [], sp := [] }, { id := 1, pre := [.clr [5]], ep := [], lin := [], sp := [] }, { id := 4, pre := [.clr [7]], ep := [], lin := [], sp := [] }]
theorem c56 : cC Try.prog Try.f56.ntmps an56 (Try.f56.body.getD .skip) = some A56 := by kernel_rfl
structure H56 (D : Den) (σ : Sig) (F : Nat) : Prop where
  c67 : ∀ (x0 : (Int × (List (Int × Int)))) r, i_netOf F x0 = some r → D 67 [Enc.enc x0] = some (Enc.enc (r : (S1 (List Int))))
  g67 : σ 67 = some (0, false)
  c84 : ∀ (x0 : (Int × (List (Int × Int)))) (x1 : (List Int)) r, i_isSet F x0 x1 = some r → D 84 [Enc.enc x0, Enc.enc x1] = some (Enc.enc (r : Bool))
  g84 : σ 84 = some (0, false)
  c93 : ∀ (x0 : (List Int)) r, i_maskOf F x0 = some r → D 93 [Enc.enc x0] = some (Enc.enc (r : Int))
  g93 : σ 93 = some (0, false)
  c92 : ∀ (x0 : (S1 (List Int))) (x1 : Int) r, i_net_parts F x0 x1 = some r → D 92 [Enc.enc x0, Enc.enc x1] = some (Enc.enc (r : (List Int)))
  g92 : σ 92 = some (0, false)
  c82s1 : ∀ (x0 : (List (List Int))) (x1 : (Cl 94 Unit ((Rf (S1 (List Int))) × (Rf (List Int)) × Unit))) r, slices_ContainsFunc_int_int_of_i_isBramble_1 F x0 x1 = some r → D 82 [Enc.enc x0, Arg.arg x1] = some (Enc.enc (r : Bool))
  g82s1 : σ 82 = some (0, false)
abbrev R56 (r : Bool) : (Nat → V) → Prop := RR Try.prog [.tmp 4] 0 false (Enc.enc (r : Bool))
section
variable {D : Den} {σ : Sig} {F : Nat} {r : Bool}
def i_isBramble_j1 (F : Nat) (sets_2 : (List (List Int))) (g_1 : (Int × (List (Int × Int)))) (r_3 : (S1 (List Int))) (t12_14 : Int) (e_25 : (List Int)) (c1 : Int → Option Bool) (t28_29 : Bool) : Option Bool :=
  bif t28_29 then
    some false
  else
    (sub sets_2 0 t12_14).bind fun sub_30 =>
    (slices_ContainsFunc_int_int_of_i_isBramble_1 F sub_30 (Cl.mk () ((Rf.mk r_3 : (Rf (S1 (List Int)))), (Rf.mk e_25 : (Rf (List Int))), ()) : (Cl 94 Unit ((Rf (S1 (List Int))) × (Rf (List Int)) × Unit)))).bind fun r_31 =>
    bif r_31 then
      some false
    else
      c1 (w64 (t12_14 + 1))
theorem t_f56_j1 (H : H56 D σ F) (sets_2 : (List (List Int))) (g_1 : (Int × (List (Int × Int)))) (r_3 : (S1 (List Int))) (t12_14 : Int) (e_25 : (List Int)) (c1 : Int → Option Bool) (Hc1 : ∀ (t12_14 : Int) (s : Nat → V), Facts [(1, (Enc.enc (sets_2 : List (List Int)))), (2, (.ref (.bx 2) 0 [] (.agg [(.int .i64 g_1.1), (Enc.enc (g_1.2 : List (Int × Int)))]))), (4, (.bool false)), (5, (.ref (.bx 5) 0 [] (.agg [(Enc.enc (r_3.a : List Int))]))), (10, (Enc.enc (sets_2 : List (List Int)))), (11, (.int .i64 (sets_2.length : Int))), (12, (.int .i64 t12_14))] s → c1 t12_14 = some r → Run D σ (R56 r) (.run A56_1 [.lp A56_1, .bk 0, .sq A56_9]) s) (t28_29 : Bool) (s : Nat → V) (hs : Facts [(1, (Enc.enc (sets_2 : List (List Int)))), (2, (.ref (.bx 2) 0 [] (.agg [(.int .i64 g_1.1), (Enc.enc (g_1.2 : List (Int × Int)))]))), (4, (.bool false)), (5, (.ref (.bx 5) 0 [] (.agg [(Enc.enc (r_3.a : List Int))]))), (6, (.int .i64 t12_14)), (7, (.ref (.bx 7) 0 [] (Enc.enc (e_25 : List Int)))), (10, (Enc.enc (sets_2 : List (List Int)))), (11, (.int .i64 (sets_2.length : Int))), (12, (.int .i64 t12_14)), (28, (.bool t28_29))] s) (h : i_isBramble_j1 F sets_2 g_1 r_3 t12_14 e_25 c1 t28_29 = some r) : Run D σ (R56 r) (.nrm [.sq A56_5, .sq A56_6, .bk 1, .sq A56_8, .lp A56_1, .bk 0, .sq A56_9]) s := by
  unfold i_isBramble_j1 at h
  obtain ⟨h1, h2, h4, h5, h6, h7, h10, h11, h12, h28⟩ := hs
  refine .nsq ?_
  refine run_cond (t := t28_29) h28 h (fun h => ?_) (fun h => ?_)
  · refine .seq ?_
    refine run_reg ?_
    refine e_end ?_
    refine g_v0 (.bool false) rfl rfl ?_
    refine g_end ?_
    refine e_end ?_
    refine renew [(1, (Enc.enc (sets_2 : List (List Int)))), (2, (.ref (.bx 2) 0 [] (.agg [(.int .i64 g_1.1), (Enc.enc (g_1.2 : List (Int × Int)))]))), (4, (.bool false)), (5, (.ref (.bx 5) 0 [] (.agg [(Enc.enc (r_3.a : List Int))]))), (6, (.int .i64 t12_14)), (7, (.ref (.bx 7) 0 [] (Enc.enc (e_25 : List Int)))), (10, (Enc.enc (sets_2 : List (List Int)))), (11, (.int .i64 (sets_2.length : Int))), (12, (.int .i64 t12_14))] ⟨h1, h2, rfl, h5, h6, h7, h10, h11, h12⟩ ?_
    rintro s ⟨h1, h2, h4, h5, h6, h7, h10, h11, h12⟩
    refine .nsq ?_
    refine .ret ?_
    have hr := Option.some.inj h
    subst hr
    exact rrA (res_tmp h4) rfl
  · refine .skip ?_
    refine .nsq ?_
    refine .seq ?_
    refine run_reg ?_
    refine e_end ?_
    refine g_v1 (t := 1) (u := (Enc.enc (sets_2 : List (List Int)))) (Enc.enc (sets_2 : List (List Int))) h1 rfl rfl ?_
    refine g_v1 (t := 6) (u := (.int .i64 t12_14)) (.int .i64 t12_14) h6 rfl rfl ?_
    obtain ⟨sub_30, E_sub_30, h⟩ := bind_some h
    refine g_v (Enc.enc (sub_30 : List (List Int))) (ev_slice (xs := sets_2) rfl (optI_none) (optI_some rfl) E_sub_30 rfl) ?_
    refine g_v2 (t1 := 5) (t2 := 7) (u1 := (.ref (.bx 5) 0 [] (.agg [(Enc.enc (r_3.a : List Int))]))) (u2 := (.ref (.bx 7) 0 [] (Enc.enc (e_25 : List Int)))) (.fn 94 [] [(.ref (.bx 5) 0 [] (.agg [(Enc.enc (r_3.a : List Int))])), (.ref (.bx 7) 0 [] (Enc.enc (e_25 : List Int)))]) h5 h7 rfl rfl ?_
    obtain ⟨r_31, E_r_31, h⟩ := bind_some h
    refine g_call (m := 0) (al := false) (r := (Enc.enc (r_31 : Bool))) [Enc.enc (sub_30 : (List (List Int))), Arg.arg ((Cl.mk () ((Rf.mk r_3 : (Rf (S1 (List Int)))), (Rf.mk e_25 : (Rf (List Int))), ()) : (Cl 94 Unit ((Rf (S1 (List Int))) × (Rf (List Int)) × Unit))) : (Cl 94 Unit ((Rf (S1 (List Int))) × (Rf (List Int)) × Unit)))] (ta_cons (v := (Enc.enc (sub_30 : List (List Int)))) rfl rfl (Enc.erase_enc (sub_30 : (List (List Int)))) (ta_cons (v := (.fn 94 [] [(.ref (.bx 5) 0 [] (.agg [(Enc.enc (r_3.a : List Int))])), (.ref (.bx 7) 0 [] (Enc.enc (e_25 : List Int)))])) rfl rfl (erase_fn erases_nil (erases_cons (erase_ref (Enc.erase_enc (r_3 : (S1 (List Int))))) (erases_cons (erase_ref (Enc.erase_enc (e_25 : (List Int)))) erases_nil))) ta_nil)) (H.c82s1 _ _ _ E_r_31) H.g82s1 rfl rfl rfl rfl ?_
    refine g_end ?_
    refine e_end ?_
    refine renew [(1, (Enc.enc (sets_2 : List (List Int)))), (2, (.ref (.bx 2) 0 [] (.agg [(.int .i64 g_1.1), (Enc.enc (g_1.2 : List (Int × Int)))]))), (4, (.bool false)), (5, (.ref (.bx 5) 0 [] (.agg [(Enc.enc (r_3.a : List Int))]))), (10, (Enc.enc (sets_2 : List (List Int)))), (11, (.int .i64 (sets_2.length : Int))), (12, (.int .i64 t12_14)), (33, (.bool r_31))] ⟨h1, h2, h4, h5, h10, h11, h12, rfl⟩ ?_
    rintro s ⟨h1, h2, h4, h5, h10, h11, h12, h33⟩
    refine .nsq ?_
    refine run_cond (t := r_31) h33 h (fun h => ?_) (fun h => ?_)
    · refine .seq ?_
      refine run_reg ?_
      refine e_end ?_
      refine g_v0 (.bool false) rfl rfl ?_
      refine g_end ?_
      refine e_end ?_
      refine renew [(1, (Enc.enc (sets_2 : List (List Int)))), (2, (.ref (.bx 2) 0 [] (.agg [(.int .i64 g_1.1), (Enc.enc (g_1.2 : List (Int × Int)))]))), (4, (.bool false)), (5, (.ref (.bx 5) 0 [] (.agg [(Enc.enc (r_3.a : List Int))]))), (10, (Enc.enc (sets_2 : List (List Int)))), (11, (.int .i64 (sets_2.length : Int))), (12, (.int .i64 t12_14))] ⟨h1, h2, rfl, h5, h10, h11, h12⟩ ?_
      rintro s ⟨h1, h2, h4, h5, h10, h11, h12⟩
      refine .nsq ?_
      refine .ret ?_
      have hr := Option.some.inj h
      subst hr
      exact rrA (res_tmp h4) rfl
    · refine .skip ?_
      refine .nbk ?_
      refine .nsq ?_
      refine run_reg ?_
      refine e_end ?_
      refine g_v1 (t := 12) (u := (.int .i64 t12_14)) (.int .i64 (w64 (t12_14 + 1))) h12 rfl rfl ?_
      refine g_v1 (t := 34) (u := (.int .i64 (w64 (t12_14 + 1)))) (.int .i64 (w64 (t12_14 + 1))) rfl rfl rfl ?_
      refine g_end ?_
      refine e_end ?_
      refine renew [(1, (Enc.enc (sets_2 : List (List Int)))), (2, (.ref (.bx 2) 0 [] (.agg [(.int .i64 g_1.1), (Enc.enc (g_1.2 : List (Int × Int)))]))), (4, (.bool false)), (5, (.ref (.bx 5) 0 [] (.agg [(Enc.enc (r_3.a : List Int))]))), (10, (Enc.enc (sets_2 : List (List Int)))), (11, (.int .i64 (sets_2.length : Int))), (12, (.int .i64 (w64 (t12_14 + 1))))] ⟨h1, h2, h4, h5, h10, h11, rfl⟩ ?_
      rintro s ⟨h1, h2, h4, h5, h10, h11, h12⟩
      refine .nlp ?_
      exact Hc1 (w64 (t12_14 + 1)) _ ⟨h1, h2, h4, h5, h10, h11, h12⟩ h
def i_isBramble_l1 (F : Nat) (sets_2 : (List (List Int))) (g_1 : (Int × (List (Int × Int)))) (r_3 : (S1 (List Int)))  : Nat → Int → Option Bool
  | 0, _ => none
  | k + 1, t12_14 =>
    bif decide (t12_14 < (sets_2.length : Int)) then
      (idx sets_2 t12_14).bind fun e_25 =>
      (i_isSet F g_1 e_25).bind fun r_32 =>
      bif (!r_32) then
        i_isBramble_j1 F sets_2 g_1 r_3 t12_14 e_25 (i_isBramble_l1 F sets_2 g_1 r_3 k) true
      else
        (i_maskOf F e_25).bind fun r_33 =>
        (i_net_parts F r_3 r_33).bind fun r_34 =>
        i_isBramble_j1 F sets_2 g_1 r_3 t12_14 e_25 (i_isBramble_l1 F sets_2 g_1 r_3 k) ((r_34.length : Int) != 1)
    else
      some (decide ((sets_2.length : Int) > 0))
theorem t_f56_l1 (H : H56 D σ F) (sets_2 : (List (List Int))) (g_1 : (Int × (List (Int × Int)))) (r_3 : (S1 (List Int)))  : ∀ (k : Nat) (t12_14 : Int) (s : Nat → V), Facts [(1, (Enc.enc (sets_2 : List (List Int)))), (2, (.ref (.bx 2) 0 [] (.agg [(.int .i64 g_1.1), (Enc.enc (g_1.2 : List (Int × Int)))]))), (4, (.bool false)), (5, (.ref (.bx 5) 0 [] (.agg [(Enc.enc (r_3.a : List Int))]))), (10, (Enc.enc (sets_2 : List (List Int)))), (11, (.int .i64 (sets_2.length : Int))), (12, (.int .i64 t12_14))] s → i_isBramble_l1 F sets_2 g_1 r_3 k t12_14 = some r → Run D σ (R56 r) (.run A56_1 [.lp A56_1, .bk 0, .sq A56_9]) s := by
  intro k
  induction k with
  | zero => intro t12_14 s _ h; exact nomatch (h : (none : Option _) = some r)
  | succ k ih =>
    intro t12_14 s hs h
    rw [i_isBramble_l1] at h
    obtain ⟨h1, h2, h4, h5, h10, h11, h12⟩ := hs
    refine .seq ?_
    refine run_reg ?_
    refine e_end ?_
    refine g_v2 (t1 := 12) (t2 := 11) (u1 := (.int .i64 t12_14)) (u2 := (.int .i64 (sets_2.length : Int))) (.bool (decide (t12_14 < (sets_2.length : Int)))) h12 h11 rfl rfl ?_
    refine g_end ?_
    refine e_end ?_
    refine renew [(1, (Enc.enc (sets_2 : List (List Int)))), (2, (.ref (.bx 2) 0 [] (.agg [(.int .i64 g_1.1), (Enc.enc (g_1.2 : List (Int × Int)))]))), (4, (.bool false)), (5, (.ref (.bx 5) 0 [] (.agg [(Enc.enc (r_3.a : List Int))]))), (10, (Enc.enc (sets_2 : List (List Int)))), (11, (.int .i64 (sets_2.length : Int))), (12, (.int .i64 t12_14)), (13, (.bool (decide (t12_14 < (sets_2.length : Int)))))] ⟨h1, h2, h4, h5, h10, h11, h12, rfl⟩ ?_
    rintro s ⟨h1, h2, h4, h5, h10, h11, h12, h13⟩
    refine .nsq ?_
    refine .seq ?_
    refine run_cond (t := decide (t12_14 < (sets_2.length : Int))) h13 h (fun h => ?_) (fun h => ?_)
    · refine .skip ?_
      refine .nsq ?_
      refine .seq ?_
      refine .block ?_
      refine .seq ?_
      refine run_reg ?_
      refine e_clr ?_
      refine e_end ?_
      refine g_v1 (t := 12) (u := (.int .i64 t12_14)) (.int .i64 t12_14) (keep_clear (s := s) (pk := [7]) h12 rfl rfl) rfl rfl ?_
      obtain ⟨e_25, E_e_25, h⟩ := bind_some h
      refine g_v (.ref .sh 0 [] (Enc.enc (e_25 : List Int))) (ev_idx (t := .sh) (lo := 0) (xs := sets_2) (keep_clear (s := s) (pk := [7]) h10 rfl (Enc.map_enc _ (sets_2 : List (List Int)))) (keep_clear (s := s) (pk := [7]) h12 rfl rfl) E_e_25 rfl rfl) ?_
      refine g_v1 (t := 15) (u := (.ref .sh 0 [] (Enc.enc (e_25 : List Int)))) (Enc.enc (e_25 : List Int)) rfl rfl rfl ?_
      refine g_alloc (gone_clear (s := s) (pk := [7]) (t := 7) rfl) ?_
      refine g_v1 (t := 14) (u := (.int .i64 t12_14)) (.int .i64 t12_14) rfl rfl rfl ?_
      refine g_store (Enc.enc (e_25 : List Int)) (rd_of rfl rfl) (rd_of rfl rfl) (by refine ⟨by decide, by decide, rfl, rfl, rfl, ?_⟩; first | rfl | simp [V.toks, V.tokss, Enc.toks_enc]) ?_
      refine g_end ?_
      refine e_end ?_
      refine renew [(1, (Enc.enc (sets_2 : List (List Int)))), (2, (.ref (.bx 2) 0 [] (.agg [(.int .i64 g_1.1), (Enc.enc (g_1.2 : List (Int × Int)))]))), (4, (.bool false)), (5, (.ref (.bx 5) 0 [] (.agg [(Enc.enc (r_3.a : List Int))]))), (6, (.int .i64 t12_14)), (7, (.ref (.bx 7) 0 [] (Enc.enc (e_25 : List Int)))), (10, (Enc.enc (sets_2 : List (List Int)))), (11, (.int .i64 (sets_2.length : Int))), (12, (.int .i64 t12_14))] ⟨(keep_mut (keep_clear (s := s) (pk := [7]) h1 rfl (Enc.map_enc _ (sets_2 : List (List Int)))) (Enc.mut_enc _ _ _ _ (sets_2 : List (List Int)))), (keep_mut (keep_clear (s := s) (pk := [7]) h2 rfl (map_bx rfl (map_agg (maps_cons rfl (maps_cons (Enc.map_enc _ (g_1.2 : List (Int × Int))) maps_nil))))) (mut_ref_ne rfl rfl (mut_agg (muts_cons rfl (muts_cons (Enc.mut_enc _ _ _ _ (g_1.2 : List (Int × Int))) rfl))))), (keep_mut (keep_clear (s := s) (pk := [7]) h4 rfl rfl) rfl), (keep_mut (keep_clear (s := s) (pk := [7]) h5 rfl (map_bx rfl (map_agg (maps_cons (Enc.map_enc _ (r_3.a : List Int)) maps_nil)))) (mut_ref_ne rfl rfl (mut_agg (muts_cons (Enc.mut_enc _ _ _ _ (r_3.a : List Int)) rfl)))), (keep_mut rfl rfl), (keep_mut rfl rfl), (keep_mut (keep_clear (s := s) (pk := [7]) h10 rfl (Enc.map_enc _ (sets_2 : List (List Int)))) (Enc.mut_enc _ _ _ _ (sets_2 : List (List Int)))), (keep_mut (keep_clear (s := s) (pk := [7]) h11 rfl rfl) rfl), (keep_mut (keep_clear (s := s) (pk := [7]) h12 rfl rfl) rfl)⟩ ?_
      rintro s ⟨h1, h2, h4, h5, h6, h7, h10, h11, h12⟩
      refine .nsq ?_
      refine .seq ?_
      refine .seq ?_
      refine run_reg ?_
      refine e_end ?_
      refine g_v1 (t := 2) (u := (.ref (.bx 2) 0 [] (.agg [(.int .i64 g_1.1), (Enc.enc (g_1.2 : List (Int × Int)))]))) (.agg [(.int .i64 g_1.1), (Enc.enc (g_1.2 : List (Int × Int)))]) h2 rfl rfl ?_
      refine g_v1 (t := 7) (u := (.ref (.bx 7) 0 [] (Enc.enc (e_25 : List Int)))) (Enc.enc (e_25 : List Int)) h7 rfl rfl ?_
      obtain ⟨r_32, E_r_32, h⟩ := bind_some h
      refine g_call (m := 0) (al := false) (r := (Enc.enc (r_32 : Bool))) [Enc.enc (g_1 : (Int × (List (Int × Int)))), Enc.enc (e_25 : (List Int))] (ta_cons (v := (.agg [(.int .i64 g_1.1), (Enc.enc (g_1.2 : List (Int × Int)))])) rfl rfl (Enc.erase_enc (g_1 : (Int × (List (Int × Int))))) (ta_cons (v := (Enc.enc (e_25 : List Int))) rfl rfl (Enc.erase_enc (e_25 : (List Int))) ta_nil)) (H.c84 _ _ _ E_r_32) H.g84 rfl rfl rfl rfl ?_
      refine g_v1 (t := 19) (u := (.bool r_32)) (.bool (!r_32)) rfl rfl rfl ?_
      refine g_v1 (t := 20) (u := (.bool (!r_32))) (.bool (!r_32)) rfl rfl rfl ?_
      refine split_on (c := (!r_32)) h (fun hg5 h => ?_) (fun hg5 h => ?_)
      · refine g_no (Eq.trans (b := .bool (!r_32)) rfl (congrArg V.bool hg5)) ?_
        refine g_no (Eq.trans (b := .bool (!r_32)) rfl (congrArg V.bool hg5)) ?_
        refine g_no (Eq.trans (b := .bool (!r_32)) rfl (congrArg V.bool hg5)) ?_
        refine g_no (Eq.trans (b := .bool (!r_32)) rfl (congrArg V.bool hg5)) ?_
        refine g_no (Eq.trans (b := .bool (!r_32)) rfl (congrArg V.bool hg5)) ?_
        refine g_no (Eq.trans (b := .bool (!r_32)) rfl (congrArg V.bool hg5)) ?_
        refine g_v2 (t1 := 21) (t2 := 27) (u1 := (.bool true)) (u2 := (.tup [])) (.bool true) (Eq.trans (b := .bool (!r_32)) rfl (congrArg V.bool hg5)) rfl rfl rfl ?_
        refine g_end ?_
        refine e_end ?_
        refine renew [(1, (Enc.enc (sets_2 : List (List Int)))), (2, (.ref (.bx 2) 0 [] (.agg [(.int .i64 g_1.1), (Enc.enc (g_1.2 : List (Int × Int)))]))), (4, (.bool false)), (5, (.ref (.bx 5) 0 [] (.agg [(Enc.enc (r_3.a : List Int))]))), (6, (.int .i64 t12_14)), (7, (.ref (.bx 7) 0 [] (Enc.enc (e_25 : List Int)))), (10, (Enc.enc (sets_2 : List (List Int)))), (11, (.int .i64 (sets_2.length : Int))), (12, (.int .i64 t12_14)), (28, (.bool true))] ⟨h1, h2, h4, h5, h6, h7, h10, h11, h12, rfl⟩ ?_
        rintro s ⟨h1, h2, h4, h5, h6, h7, h10, h11, h12, h28⟩
        exact t_f56_j1 H sets_2 g_1 r_3 t12_14 e_25 (i_isBramble_l1 F sets_2 g_1 r_3 k) ih true _ ⟨h1, h2, h4, h5, h6, h7, h10, h11, h12, h28⟩ h
      · refine g_yes (Eq.trans (b := .bool (!r_32)) rfl (congrArg V.bool hg5)) (g_v1 (t := 5) (u := (.ref (.bx 5) 0 [] (.agg [(Enc.enc (r_3.a : List Int))]))) (.agg [(Enc.enc (r_3.a : List Int))]) h5 rfl rfl ?_)
        refine g_yes (Eq.trans (b := .bool (!r_32)) rfl (congrArg V.bool hg5)) (g_v1 (t := 7) (u := (.ref (.bx 7) 0 [] (Enc.enc (e_25 : List Int)))) (Enc.enc (e_25 : List Int)) h7 rfl rfl ?_)
        obtain ⟨r_33, E_r_33, h⟩ := bind_some h
        refine g_yes (Eq.trans (b := .bool (!r_32)) rfl (congrArg V.bool hg5)) (g_call (m := 0) (al := false) (r := (Enc.enc (r_33 : Int))) [Enc.enc (e_25 : (List Int))] (ta_cons (v := (Enc.enc (e_25 : List Int))) rfl rfl (Enc.erase_enc (e_25 : (List Int))) ta_nil) (H.c93 _ _ E_r_33) H.g93 rfl rfl rfl rfl ?_)
        obtain ⟨r_34, E_r_34, h⟩ := bind_some h
        refine g_yes (Eq.trans (b := .bool (!r_32)) rfl (congrArg V.bool hg5)) (g_call (m := 0) (al := false) (r := (Enc.enc (r_34 : (List Int)))) [Enc.enc (r_3 : (S1 (List Int))), Enc.enc (r_33 : Int)] (ta_cons (v := (.agg [(Enc.enc (r_3.a : List Int))])) rfl rfl (Enc.erase_enc (r_3 : (S1 (List Int)))) (ta_cons (v := (.int .i64 r_33)) rfl rfl rfl ta_nil)) (H.c92 _ _ _ E_r_34) H.g92 rfl rfl rfl rfl ?_)
        refine g_yes (Eq.trans (b := .bool (!r_32)) rfl (congrArg V.bool hg5)) (g_v (.int .i64 (r_34.length : Int)) (ev_len (xs := r_34) rfl) ?_)
        refine g_yes (Eq.trans (b := .bool (!r_32)) rfl (congrArg V.bool hg5)) (g_v1 (t := 26) (u := (.int .i64 (r_34.length : Int))) (.bool ((r_34.length : Int) != 1)) rfl rfl rfl ?_)
        refine g_v2 (t1 := 21) (t2 := 27) (u1 := (.bool false)) (u2 := (.bool ((r_34.length : Int) != 1))) (.bool ((r_34.length : Int) != 1)) (Eq.trans (b := .bool (!r_32)) rfl (congrArg V.bool hg5)) rfl rfl rfl ?_
        refine g_end ?_
        refine e_end ?_
        refine renew [(1, (Enc.enc (sets_2 : List (List Int)))), (2, (.ref (.bx 2) 0 [] (.agg [(.int .i64 g_1.1), (Enc.enc (g_1.2 : List (Int × Int)))]))), (4, (.bool false)), (5, (.ref (.bx 5) 0 [] (.agg [(Enc.enc (r_3.a : List Int))]))), (6, (.int .i64 t12_14)), (7, (.ref (.bx 7) 0 [] (Enc.enc (e_25 : List Int)))), (10, (Enc.enc (sets_2 : List (List Int)))), (11, (.int .i64 (sets_2.length : Int))), (12, (.int .i64 t12_14)), (28, (.bool ((r_34.length : Int) != 1)))] ⟨h1, h2, h4, h5, h6, h7, h10, h11, h12, rfl⟩ ?_
        rintro s ⟨h1, h2, h4, h5, h6, h7, h10, h11, h12, h28⟩
        exact t_f56_j1 H sets_2 g_1 r_3 t12_14 e_25 (i_isBramble_l1 F sets_2 g_1 r_3 k) ih ((r_34.length : Int) != 1) _ ⟨h1, h2, h4, h5, h6, h7, h10, h11, h12, h28⟩ h
    · refine .exit ?_
      refine .esq ?_
      refine .elp ?_
      refine .ebk ?_
      refine .nsq ?_
      refine .seq ?_
      refine run_reg ?_
      refine e_end ?_
      refine g_v1 (t := 1) (u := (Enc.enc (sets_2 : List (List Int)))) (Enc.enc (sets_2 : List (List Int))) h1 rfl rfl ?_
      refine g_v (.int .i64 (sets_2.length : Int)) (ev_len (xs := sets_2) rfl) ?_
      refine g_v1 (t := 36) (u := (.int .i64 (sets_2.length : Int))) (.bool (decide ((sets_2.length : Int) > 0))) rfl rfl rfl ?_
      refine g_v1 (t := 37) (u := (.bool (decide ((sets_2.length : Int) > 0)))) (.bool (decide ((sets_2.length : Int) > 0))) rfl rfl rfl ?_
      refine g_end ?_
      refine e_end ?_
      refine renew [(4, (.bool (decide ((sets_2.length : Int) > 0))))] rfl ?_
      rintro s h4
      refine .nsq ?_
      refine .ret ?_
      have hr := Option.some.inj h
      subst hr
      exact rrA (res_tmp h4) rfl
def i_isBramble (F : Nat) (g_1 : (Int × (List (Int × Int)))) (sets_2 : (List (List Int))) : Option Bool :=
  (i_netOf F g_1).bind fun r_3 =>
  i_isBramble_l1 F sets_2 g_1 r_3 F 0
theorem t56 (H : H56 D σ F) (g_1 : (Int × (List (Int × Int)))) (sets_2 : (List (List Int))) (s : Nat → V) (hs : Facts [(0, (.agg [(.int .i64 g_1.1), (Enc.enc (g_1.2 : List (Int × Int)))])), (1, (Enc.enc (sets_2 : List (List Int))))] s) (h : i_isBramble F g_1 sets_2 = some r) : Run D σ (R56 r) (.run A56 []) s := by
  unfold i_isBramble at h
  obtain ⟨h0, h1⟩ := hs
  refine .seq ?_
  refine run_reg ?_
  refine e_clr ?_
  refine e_end ?_
  refine g_box (.agg [(.int .i64 g_1.1), (Enc.enc (g_1.2 : List (Int × Int)))]) (rd_of (keep_clear (s := s) (pk := [2]) h0 rfl (map_agg (maps_cons rfl (maps_cons (Enc.map_enc _ (g_1.2 : List (Int × Int))) maps_nil)))) rfl) (gone_clear (s := s) (pk := [2]) (t := 2) rfl) rfl ?_
  refine g_v0 (.bool false) rfl rfl ?_
  refine g_end ?_
  refine e_end ?_
  refine renew [(1, (Enc.enc (sets_2 : List (List Int)))), (2, (.ref (.bx 2) 0 [] (.agg [(.int .i64 g_1.1), (Enc.enc (g_1.2 : List (Int × Int)))]))), (4, (.bool false))] ⟨(keep_clear (s := s) (pk := [2]) h1 rfl (Enc.map_enc _ (sets_2 : List (List Int)))), rfl, rfl⟩ ?_
  rintro s ⟨h1, h2, h4⟩
  refine .nsq ?_
  refine .seq ?_
  refine run_reg ?_
  refine e_clr ?_
  refine e_end ?_
  refine g_v1 (t := 2) (u := (.ref (.bx 2) 0 [] (.agg [(.int .i64 g_1.1), (Enc.enc (g_1.2 : List (Int × Int)))]))) (.agg [(.int .i64 g_1.1), (Enc.enc (g_1.2 : List (Int × Int)))]) (keep_clear (s := s) (pk := [5]) h2 rfl (map_bx rfl (map_agg (maps_cons rfl (maps_cons (Enc.map_enc _ (g_1.2 : List (Int × Int))) maps_nil))))) rfl rfl ?_
  obtain ⟨r_3, E_r_3, h⟩ := bind_some h
  refine g_call (m := 0) (al := false) (r := (Enc.enc (r_3 : (S1 (List Int))))) [Enc.enc (g_1 : (Int × (List (Int × Int))))] (ta_cons (v := (.agg [(.int .i64 g_1.1), (Enc.enc (g_1.2 : List (Int × Int)))])) rfl rfl (Enc.erase_enc (g_1 : (Int × (List (Int × Int))))) ta_nil) (H.c67 _ _ E_r_3) H.g67 rfl rfl rfl rfl ?_
  refine g_alloc (gone_clear (s := s) (pk := [5]) (t := 5) rfl) ?_
  refine g_store (.agg [(Enc.enc (r_3.a : List Int))]) (rd_of rfl rfl) (rd_of rfl rfl) (by refine ⟨by decide, by decide, rfl, rfl, rfl, ?_⟩; first | rfl | simp [V.toks, V.tokss, Enc.toks_enc]) ?_
  refine g_end ?_
  refine e_end ?_
  refine renew [(1, (Enc.enc (sets_2 : List (List Int)))), (2, (.ref (.bx 2) 0 [] (.agg [(.int .i64 g_1.1), (Enc.enc (g_1.2 : List (Int × Int)))]))), (4, (.bool false)), (5, (.ref (.bx 5) 0 [] (.agg [(Enc.enc (r_3.a : List Int))])))] ⟨(keep_mut (keep_clear (s := s) (pk := [5]) h1 rfl (Enc.map_enc _ (sets_2 : List (List Int)))) (Enc.mut_enc _ _ _ _ (sets_2 : List (List Int)))), (keep_mut (keep_clear (s := s) (pk := [5]) h2 rfl (map_bx rfl (map_agg (maps_cons rfl (maps_cons (Enc.map_enc _ (g_1.2 : List (Int × Int))) maps_nil))))) (mut_ref_ne rfl rfl (mut_agg (muts_cons rfl (muts_cons (Enc.mut_enc _ _ _ _ (g_1.2 : List (Int × Int))) rfl))))), (keep_mut (keep_clear (s := s) (pk := [5]) h4 rfl rfl) rfl), (keep_mut rfl rfl)⟩ ?_
  rintro s ⟨h1, h2, h4, h5⟩
  refine .nsq ?_
  refine .seq ?_
  refine .seq ?_
  refine run_reg ?_
  refine e_end ?_
  refine g_v1 (t := 1) (u := (Enc.enc (sets_2 : List (List Int)))) (Enc.enc (sets_2 : List (List Int))) h1 rfl rfl ?_
  refine g_v (.int .i64 (sets_2.length : Int)) (ev_len (xs := sets_2) rfl) ?_
  refine g_v0 (.int .i64 0) rfl rfl ?_
  refine g_end ?_
  refine e_end ?_
  refine renew [(1, (Enc.enc (sets_2 : List (List Int)))), (2, (.ref (.bx 2) 0 [] (.agg [(.int .i64 g_1.1), (Enc.enc (g_1.2 : List (Int × Int)))]))), (4, (.bool false)), (5, (.ref (.bx 5) 0 [] (.agg [(Enc.enc (r_3.a : List Int))]))), (10, (Enc.enc (sets_2 : List (List Int)))), (11, (.int .i64 (sets_2.length : Int))), (12, (.int .i64 0))] ⟨h1, h2, h4, h5, rfl, rfl, rfl⟩ ?_
  rintro s ⟨h1, h2, h4, h5, h10, h11, h12⟩
  refine .nsq ?_
  refine .block ?_
  refine .loop ?_
  exact t_f56_l1 H sets_2 g_1 r_3 F 0 _ ⟨h1, h2, h4, h5, h10, h11, h12⟩ h
end
def e56 (F : Nat) : Ent := ⟨56, da (fun (x : ((Int × (List (Int × Int))) × (List (List Int)) × Unit)) => i_isBramble F x.1 x.2.1) (fun (r : Bool) => (Enc.enc (r : Bool))), 0, false, selF []⟩
theorem p56 {F : Nat} {x0 : (Int × (List (Int × Int)))} {x1 : (List (List Int))} {r : Bool} (h : i_isBramble F x0 x1 = some r) : (e56 F).den [Enc.enc x0, Enc.enc x1] = some (Enc.enc (r : Bool)) := da_put (f := fun (x : ((Int × (List (Int × Int))) × (List (List Int)) × Unit)) => i_isBramble F x.1 x.2.1) (t := fun (r : Bool) => (Enc.enc (r : Bool))) (x0, x1, ()) h
theorem o56 {D : Den} {σ : Sig} {F : Nat} (hF : Fits2 Try.prog D σ) (H : H56 D σ F) : (e56 F).Ok Try.prog := by
  refine ⟨fun args r h => ?_, ⟨Try.f56, Try.func56, rfl, rfl⟩⟩
  obtain ⟨⟨x0, x1, _⟩, y, rfl, hy, rfl⟩ := da_open h
  exact contract_run hF (by kernel_rfl) Try.func56 rfl c56 (show 2 ≤ Try.f56.ntmps by decide) (t56 H x0 x1 _ ⟨rfl, rfl⟩ hy)
/- loop.example/g01109/impl.IsBramble -/
def A26_2 : AC := (AC.cond (O.t 8) (AC.seq (AC.reg [] [(I.mk (some 4) none false (X.v (A.mov (O.k (V.bool false))))), (I.mk (some 5) none false (X.v (A.mov (O.k (V.bool false)))))] []) AC.ret) AC.skip)
def A26_3 : AC := (AC.seq (AC.reg [] [(I.mk (some 9) none false (X.v (A.load (Sh.ag [Sh.s, Sh.p]) (O.t 2)))), (I.mk (some 10) none false (X.v (A.mov (O.t 1)))), (I.mk (some 11) none false (X.call (O.k (V.fn 56 [] [])) [(O.t 9), (O.t 10)])), (I.mk (some 4) none false (X.v (A.mov (O.t 11)))), (I.mk (some 5) none false (X.v (A.mov (O.k (V.bool true)))))] []) AC.ret)
def A26_1 : AC := (AC.seq (AC.seq (AC.reg [] [(I.mk (some 6) none false (X.v (A.load (Sh.ag [Sh.s, Sh.p]) (O.t 2)))), (I.mk (some 7) none false (X.call (O.k (V.fn 53 [] [])) [(O.t 6)])), (I.mk (some 8) none false (X.v (A.un UnOp.not (O.t 7))))] []) A26_2) A26_3)
def A26 : AC := (AC.seq (AC.reg [.clr [2]] [(I.mk (some 2) none false (X.box (O.t 0))), (I.mk (some 4) none false (X.v (A.mov (O.k (V.bool false))))), (I.mk (some 5) none false (X.v (A.mov (O.k (V.bool false)))))] []) A26_1)
def an26 : List An := [{ id := 0, pre := [.clr [2]], ep := [], lin := [], sp := [] }]
theorem c26 : cC Try.prog Try.f26.ntmps an26 (Try.f26.body.getD .skip) = some A26 := by kernel_rfl
structure H26 (D : Den) (σ : Sig) (F : Nat) : Prop where
  c53 : ∀ (x0 : (Int × (List (Int × Int)))) r, i_IsGraph F x0 = some r → D 53 [Enc.enc x0] = some (Enc.enc (r : Bool))
  g53 : σ 53 = some (0, false)
  c56 : ∀ (x0 : (Int × (List (Int × Int)))) (x1 : (List (List Int))) r, i_isBramble F x0 x1 = some r → D 56 [Enc.enc x0, Enc.enc x1] = some (Enc.enc (r : Bool))
  g56 : σ 56 = some (0, false)
abbrev R26 (r : (Bool × Bool)) : (Nat → V) → Prop := RR Try.prog [.tmp 4, .tmp 5] 0 false (.tup [Enc.enc (r.1 : Bool), Enc.enc (r.2 : Bool)])
section
variable {D : Den} {σ : Sig} {F : Nat} {r : (Bool × Bool)}
def i_IsBramble (F : Nat) (g_1 : (Int × (List (Int × Int)))) (sets_2 : (List (List Int))) : Option (Bool × Bool) :=
  (i_IsGraph F g_1).bind fun r_3 =>
  bif (!r_3) then
    some (false, false)
  else
    (i_isBramble F g_1 sets_2).bind fun r_4 =>
    some (r_4, true)
theorem t26 (H : H26 D σ F) (g_1 : (Int × (List (Int × Int)))) (sets_2 : (List (List Int))) (s : Nat → V) (hs : Facts [(0, (.agg [(.int .i64 g_1.1), (Enc.enc (g_1.2 : List (Int × Int)))])), (1, (Enc.enc (sets_2 : List (List Int))))] s) (h : i_IsBramble F g_1 sets_2 = some r) : Run D σ (R26 r) (.run A26 []) s := by
  unfold i_IsBramble at h
  obtain ⟨h0, h1⟩ := hs
  refine .seq ?_
  refine run_reg ?_
  refine e_clr ?_
  refine e_end ?_
  refine g_box (.agg [(.int .i64 g_1.1), (Enc.enc (g_1.2 : List (Int × Int)))]) (rd_of (keep_clear (s := s) (pk := [2]) h0 rfl (map_agg (maps_cons rfl (maps_cons (Enc.map_enc _ (g_1.2 : List (Int × Int))) maps_nil)))) rfl) (gone_clear (s := s) (pk := [2]) (t := 2) rfl) rfl ?_
  refine g_v0 (.bool false) rfl rfl ?_
  refine g_v0 (.bool false) rfl rfl ?_
  refine g_end ?_
  refine e_end ?_
  refine renew [(1, (Enc.enc (sets_2 : List (List Int)))), (2, (.ref (.bx 2) 0 [] (.agg [(.int .i64 g_1.1), (Enc.enc (g_1.2 : List (Int × Int)))]))), (4, (.bool false)), (5, (.bool false))] ⟨(keep_clear (s := s) (pk := [2]) h1 rfl (Enc.map_enc _ (sets_2 : List (List Int)))), rfl, rfl, rfl⟩ ?_
  rintro s ⟨h1, h2, h4, h5⟩
  refine .nsq ?_
  refine .seq ?_
  refine .seq ?_
  refine run_reg ?_
  refine e_end ?_
  refine g_v1 (t := 2) (u := (.ref (.bx 2) 0 [] (.agg [(.int .i64 g_1.1), (Enc.enc (g_1.2 : List (Int × Int)))]))) (.agg [(.int .i64 g_1.1), (Enc.enc (g_1.2 : List (Int × Int)))]) h2 rfl rfl ?_
  obtain ⟨r_3, E_r_3, h⟩ := bind_some h
  refine g_call (m := 0) (al := false) (r := (Enc.enc (r_3 : Bool))) [Enc.enc (g_1 : (Int × (List (Int × Int))))] (ta_cons (v := (.agg [(.int .i64 g_1.1), (Enc.enc (g_1.2 : List (Int × Int)))])) rfl rfl (Enc.erase_enc (g_1 : (Int × (List (Int × Int))))) ta_nil) (H.c53 _ _ E_r_3) H.g53 rfl rfl rfl rfl ?_
  refine g_v1 (t := 7) (u := (.bool r_3)) (.bool (!r_3)) rfl rfl rfl ?_
  refine g_end ?_
  refine e_end ?_
  refine renew [(1, (Enc.enc (sets_2 : List (List Int)))), (2, (.ref (.bx 2) 0 [] (.agg [(.int .i64 g_1.1), (Enc.enc (g_1.2 : List (Int × Int)))]))), (4, (.bool false)), (5, (.bool false)), (8, (.bool (!r_3)))] ⟨h1, h2, h4, h5, rfl⟩ ?_
  rintro s ⟨h1, h2, h4, h5, h8⟩
  refine .nsq ?_
  refine run_cond (t := (!r_3)) h8 h (fun h => ?_) (fun h => ?_)
  · refine .seq ?_
    refine run_reg ?_
    refine e_end ?_
    refine g_v0 (.bool false) rfl rfl ?_
    refine g_v0 (.bool false) rfl rfl ?_
    refine g_end ?_
    refine e_end ?_
    refine renew [(1, (Enc.enc (sets_2 : List (List Int)))), (2, (.ref (.bx 2) 0 [] (.agg [(.int .i64 g_1.1), (Enc.enc (g_1.2 : List (Int × Int)))]))), (4, (.bool false)), (5, (.bool false))] ⟨h1, h2, rfl, rfl⟩ ?_
    rintro s ⟨h1, h2, h4, h5⟩
    refine .nsq ?_
    refine .ret ?_
    have hr := Option.some.inj h
    subst hr
    exact rrB (res_tmp h4) (res_tmp h5) rfl
  · refine .skip ?_
    refine .nsq ?_
    refine .seq ?_
    refine run_reg ?_
    refine e_end ?_
    refine g_v1 (t := 2) (u := (.ref (.bx 2) 0 [] (.agg [(.int .i64 g_1.1), (Enc.enc (g_1.2 : List (Int × Int)))]))) (.agg [(.int .i64 g_1.1), (Enc.enc (g_1.2 : List (Int × Int)))]) h2 rfl rfl ?_
    refine g_v1 (t := 1) (u := (Enc.enc (sets_2 : List (List Int)))) (Enc.enc (sets_2 : List (List Int))) h1 rfl rfl ?_
    obtain ⟨r_4, E_r_4, h⟩ := bind_some h
    refine g_call (m := 0) (al := false) (r := (Enc.enc (r_4 : Bool))) [Enc.enc (g_1 : (Int × (List (Int × Int)))), Enc.enc (sets_2 : (List (List Int)))] (ta_cons (v := (.agg [(.int .i64 g_1.1), (Enc.enc (g_1.2 : List (Int × Int)))])) rfl rfl (Enc.erase_enc (g_1 : (Int × (List (Int × Int))))) (ta_cons (v := (Enc.enc (sets_2 : List (List Int)))) rfl rfl (Enc.erase_enc (sets_2 : (List (List Int)))) ta_nil)) (H.c56 _ _ _ E_r_4) H.g56 rfl rfl rfl rfl ?_
    refine g_v1 (t := 11) (u := (.bool r_4)) (.bool r_4) rfl rfl rfl ?_
    refine g_v0 (.bool true) rfl rfl ?_
    refine g_end ?_
    refine e_end ?_
    refine renew [(4, (.bool r_4)), (5, (.bool true))] ⟨rfl, rfl⟩ ?_
    rintro s ⟨h4, h5⟩
    refine .nsq ?_
    refine .ret ?_
    have hr := Option.some.inj h
    subst hr
    exact rrB (res_tmp h4) (res_tmp h5) rfl
end
def e26 (F : Nat) : Ent := ⟨26, da (fun (x : ((Int × (List (Int × Int))) × (List (List Int)) × Unit)) => i_IsBramble F x.1 x.2.1) (fun (r : (Bool × Bool)) => (.tup [Enc.enc (r.1 : Bool), Enc.enc (r.2 : Bool)])), 0, false, selF []⟩
theorem p26 {F : Nat} {x0 : (Int × (List (Int × Int)))} {x1 : (List (List Int))} {r : (Bool × Bool)} (h : i_IsBramble F x0 x1 = some r) : (e26 F).den [Enc.enc x0, Enc.enc x1] = some (.tup [Enc.enc (r.1 : Bool), Enc.enc (r.2 : Bool)]) := da_put (f := fun (x : ((Int × (List (Int × Int))) × (List (List Int)) × Unit)) => i_IsBramble F x.1 x.2.1) (t := fun (r : (Bool × Bool)) => (.tup [Enc.enc (r.1 : Bool), Enc.enc (r.2 : Bool)])) (x0, x1, ()) h
theorem o26 {D : Den} {σ : Sig} {F : Nat} (hF : Fits2 Try.prog D σ) (H : H26 D σ F) : (e26 F).Ok Try.prog := by
  refine ⟨fun args r h => ?_, ⟨Try.f26, Try.func26, rfl, rfl⟩⟩
  obtain ⟨⟨x0, x1, _⟩, y, rfl, hy, rfl⟩ := da_open h
  exact contract_run hF (by kernel_rfl) Try.func26 rfl c26 (show 2 ≤ Try.f26.ntmps by decide) (t26 H x0 x1 _ ⟨rfl, rfl⟩ hy)
/- loop.example/g01109/laws.eqIntA2 -/
def A75_2 : AC := (AC.cond (O.t 7) AC.skip (AC.exit 0))
def A75_4 : AC := (AC.cond (O.t 16) (AC.seq (AC.reg [] [(I.mk (some 4) none false (X.v (A.mov (O.k (V.bool false)))))] []) AC.ret) AC.skip)
def A75_5 : AC := (AC.reg [] [(I.mk (some 8) none false (X.v (A.mov (O.t 5)))), (I.mk (some 9) none false (X.v (A.bin BinOp.add (O.t 8) (O.k (V.int IntKind.i64 (Int.ofNat 1)))))), (I.mk (some 5) none false (X.v (A.mov (O.t 9))))] [])
def A75_3 : AC := (AC.seq (AC.block 1 (AC.seq (AC.reg [] [(I.mk (some 10) none false (X.v (A.mov (O.t 5)))), (I.mk (some 11) none false (X.v (A.idxA (O.t 2) (O.t 10) 2 1))), (I.mk (some 12) none false (X.v (A.load Sh.s (O.t 11)))), (I.mk (some 13) none false (X.v (A.mov (O.t 5)))), (I.mk (some 14) none false (X.v (A.idxA (O.t 3) (O.t 13) 2 1))), (I.mk (some 15) none false (X.v (A.load Sh.s (O.t 14)))), (I.mk (some 16) none false (X.v (A.bin BinOp.neq (O.t 12) (O.t 15))))] []) A75_4)) A75_5)
def A75_1 : AC := (AC.seq (AC.seq (AC.reg [] [(I.mk (some 6) none false (X.v (A.mov (O.t 5)))), (I.mk (some 7) none false (X.v (A.bin BinOp.lss (O.t 6) (O.k (V.int IntKind.i64 (Int.ofNat 2))))))] []) A75_2) A75_3)
def A75_6 : AC := (AC.seq (AC.reg [] [(I.mk (some 4) none false (X.v (A.mov (O.k (V.bool true)))))] []) AC.ret)
def A75_8 : AC := (AC.block 0 (AC.loop A75_1))
def A75_7 : AC := (AC.seq (AC.seq (AC.reg [] [(I.mk (some 5) none false (X.v (A.mov (O.k (V.int IntKind.i64 (Int.ofNat 0))))))] []) A75_8) A75_6)
def A75 : AC := (AC.seq (AC.reg [.clr [2, 3]] [(I.mk (some 2) none false (X.box (O.t 0))), (I.mk (some 3) none false (X.box (O.t 1))), (I.mk (some 4) none false (X.v (A.mov (O.k (V.bool false)))))] []) A75_7)
def an75 : List An := [{ id := 0, pre := [.clr [2, 3]], ep := [], lin := [], sp := [] }]
theorem c75 : cC Try.prog Try.f75.ntmps an75 (Try.f75.body.getD .skip) = some A75 := by kernel_rfl
structure H75 (D : Den) (σ : Sig) (F : Nat) : Prop where
  mk ::
abbrev R75 (r : Bool) : (Nat → V) → Prop := RR Try.prog [.tmp 4] 0 false (Enc.enc (r : Bool))
section
variable {D : Den} {σ : Sig} {F : Nat} {r : Bool}
def w_eqIntA2_l1 (F : Nat) (a_1 : (Int × Int)) (b_2 : (Int × Int))  : Nat → Int → Option Bool
  | 0, _ => none
  | k + 1, i_3 =>
    bif decide (i_3 < 2) then
      (idx [a_1.1, a_1.2] i_3).bind fun e_6 =>
      (idx [b_2.1, b_2.2] i_3).bind fun e_7 =>
      bif (e_6 != e_7) then
        some false
      else
        (w_eqIntA2_l1 F a_1 b_2 k) (w64 (i_3 + 1))
    else
      some true
theorem t_f75_l1 (H : H75 D σ F) (a_1 : (Int × Int)) (b_2 : (Int × Int))  : ∀ (k : Nat) (i_3 : Int) (s : Nat → V), Facts [(2, (.ref (.bx 2) 0 [] (.agg [(.int .i64 a_1.1), (.int .i64 a_1.2)]))), (3, (.ref (.bx 3) 0 [] (.agg [(.int .i64 b_2.1), (.int .i64 b_2.2)]))), (4, (.bool false)), (5, (.int .i64 i_3))] s → w_eqIntA2_l1 F a_1 b_2 k i_3 = some r → Run D σ (R75 r) (.run A75_1 [.lp A75_1, .bk 0, .sq A75_6]) s := by
  intro k
  induction k with
  | zero => intro i_3 s _ h; exact nomatch (h : (none : Option _) = some r)
  | succ k ih =>
    intro i_3 s hs h
    rw [w_eqIntA2_l1] at h
    obtain ⟨h2, h3, h4, h5⟩ := hs
    refine .seq ?_
    refine .seq ?_
    refine run_reg ?_
    refine e_end ?_
    refine g_v1 (t := 5) (u := (.int .i64 i_3)) (.int .i64 i_3) h5 rfl rfl ?_
    refine g_v1 (t := 6) (u := (.int .i64 i_3)) (.bool (decide (i_3 < 2))) rfl rfl rfl ?_
    refine g_end ?_
    refine e_end ?_
    refine renew [(2, (.ref (.bx 2) 0 [] (.agg [(.int .i64 a_1.1), (.int .i64 a_1.2)]))), (3, (.ref (.bx 3) 0 [] (.agg [(.int .i64 b_2.1), (.int .i64 b_2.2)]))), (4, (.bool false)), (5, (.int .i64 i_3)), (7, (.bool (decide (i_3 < 2))))] ⟨h2, h3, h4, h5, rfl⟩ ?_
    rintro s ⟨h2, h3, h4, h5, h7⟩
    refine .nsq ?_
    refine run_cond (t := decide (i_3 < 2)) h7 h (fun h => ?_) (fun h => ?_)
    · refine .skip ?_
      refine .nsq ?_
      refine .seq ?_
      refine .block ?_
      refine .seq ?_
      refine run_reg ?_
      refine e_end ?_
      refine g_v1 (t := 5) (u := (.int .i64 i_3)) (.int .i64 i_3) h5 rfl rfl ?_
      obtain ⟨e_6, E_e_6, h⟩ := bind_some h
      refine g_v (.ref (.bx 2) 0 [i_3.toNat] (.int .i64 e_6)) (ev_idxA (xs := [a_1.1, a_1.2]) (a := e_6) (n := i_3) (q := []) h2 rfl E_e_6 rfl rfl rfl) ?_
      refine g_v1 (t := 11) (u := (.ref (.bx 2) 0 [i_3.toNat] (.int .i64 e_6))) (.int .i64 e_6) rfl rfl rfl ?_
      refine g_v1 (t := 5) (u := (.int .i64 i_3)) (.int .i64 i_3) h5 rfl rfl ?_
      obtain ⟨e_7, E_e_7, h⟩ := bind_some h
      refine g_v (.ref (.bx 3) 0 [i_3.toNat] (.int .i64 e_7)) (ev_idxA (xs := [b_2.1, b_2.2]) (a := e_7) (n := i_3) (q := []) h3 rfl E_e_7 rfl rfl rfl) ?_
      refine g_v1 (t := 14) (u := (.ref (.bx 3) 0 [i_3.toNat] (.int .i64 e_7))) (.int .i64 e_7) rfl rfl rfl ?_
      refine g_v2 (t1 := 12) (t2 := 15) (u1 := (.int .i64 e_6)) (u2 := (.int .i64 e_7)) (.bool (e_6 != e_7)) rfl rfl rfl rfl ?_
      refine g_end ?_
      refine e_end ?_
      refine renew [(2, (.ref (.bx 2) 0 [] (.agg [(.int .i64 a_1.1), (.int .i64 a_1.2)]))), (3, (.ref (.bx 3) 0 [] (.agg [(.int .i64 b_2.1), (.int .i64 b_2.2)]))), (4, (.bool false)), (5, (.int .i64 i_3)), (16, (.bool (e_6 != e_7)))] ⟨h2, h3, h4, h5, rfl⟩ ?_
      rintro s ⟨h2, h3, h4, h5, h16⟩
      refine .nsq ?_
      refine run_cond (t := (e_6 != e_7)) h16 h (fun h => ?_) (fun h => ?_)
      · refine .seq ?_
        refine run_reg ?_
        refine e_end ?_
        refine g_v0 (.bool false) rfl rfl ?_
        refine g_end ?_
        refine e_end ?_
        refine renew [(2, (.ref (.bx 2) 0 [] (.agg [(.int .i64 a_1.1), (.int .i64 a_1.2)]))), (3, (.ref (.bx 3) 0 [] (.agg [(.int .i64 b_2.1), (.int .i64 b_2.2)]))), (4, (.bool false)), (5, (.int .i64 i_3))] ⟨h2, h3, rfl, h5⟩ ?_
        rintro s ⟨h2, h3, h4, h5⟩
        refine .nsq ?_
        refine .ret ?_
        have hr := Option.some.inj h
        subst hr
        exact rrA (res_tmp h4) rfl
      · refine .skip ?_
        refine .nbk ?_
        refine .nsq ?_
        refine run_reg ?_
        refine e_end ?_
        refine g_v1 (t := 5) (u := (.int .i64 i_3)) (.int .i64 i_3) h5 rfl rfl ?_
        refine g_v1 (t := 8) (u := (.int .i64 i_3)) (.int .i64 (w64 (i_3 + 1))) rfl rfl rfl ?_
        refine g_v1 (t := 9) (u := (.int .i64 (w64 (i_3 + 1)))) (.int .i64 (w64 (i_3 + 1))) rfl rfl rfl ?_
        refine g_end ?_
        refine e_end ?_
        refine renew [(2, (.ref (.bx 2) 0 [] (.agg [(.int .i64 a_1.1), (.int .i64 a_1.2)]))), (3, (.ref (.bx 3) 0 [] (.agg [(.int .i64 b_2.1), (.int .i64 b_2.2)]))), (4, (.bool false)), (5, (.int .i64 (w64 (i_3 + 1))))] ⟨h2, h3, h4, rfl⟩ ?_
        rintro s ⟨h2, h3, h4, h5⟩
        refine .nlp ?_
        exact ih (w64 (i_3 + 1)) _ ⟨h2, h3, h4, h5⟩ h
    · refine .exit ?_
      refine .esq ?_
      refine .elp ?_
      refine .ebk ?_
      refine .nsq ?_
      refine .seq ?_
      refine run_reg ?_
      refine e_end ?_
      refine g_v0 (.bool true) rfl rfl ?_
      refine g_end ?_
      refine e_end ?_
      refine renew [(4, (.bool true))] rfl ?_
      rintro s h4
      refine .nsq ?_
      refine .ret ?_
      have hr := Option.some.inj h
      subst hr
      exact rrA (res_tmp h4) rfl
def w_eqIntA2 (F : Nat) (a_1 : (Int × Int)) (b_2 : (Int × Int)) : Option Bool :=
  w_eqIntA2_l1 F a_1 b_2 F 0
theorem t75 (H : H75 D σ F) (a_1 : (Int × Int)) (b_2 : (Int × Int)) (s : Nat → V) (hs : Facts [(0, (.agg [(.int .i64 a_1.1), (.int .i64 a_1.2)])), (1, (.agg [(.int .i64 b_2.1), (.int .i64 b_2.2)]))] s) (h : w_eqIntA2 F a_1 b_2 = some r) : Run D σ (R75 r) (.run A75 []) s := by
  unfold w_eqIntA2 at h
  obtain ⟨h0, h1⟩ := hs
  refine .seq ?_
  refine run_reg ?_
  refine e_clr ?_
  refine e_end ?_
  refine g_box (.agg [(.int .i64 a_1.1), (.int .i64 a_1.2)]) (rd_of (keep_clear (s := s) (pk := [2, 3]) h0 rfl (map_agg (maps_cons rfl (maps_cons rfl maps_nil)))) rfl) (gone_clear (s := s) (pk := [2, 3]) (t := 2) rfl) rfl ?_
  refine g_box (.agg [(.int .i64 b_2.1), (.int .i64 b_2.2)]) (rd_of (keep_clear (s := s) (pk := [2, 3]) h1 rfl (map_agg (maps_cons rfl (maps_cons rfl maps_nil)))) rfl) (gone_clear (s := s) (pk := [2, 3]) (t := 3) rfl) rfl ?_
  refine g_v0 (.bool false) rfl rfl ?_
  refine g_end ?_
  refine e_end ?_
  refine renew [(2, (.ref (.bx 2) 0 [] (.agg [(.int .i64 a_1.1), (.int .i64 a_1.2)]))), (3, (.ref (.bx 3) 0 [] (.agg [(.int .i64 b_2.1), (.int .i64 b_2.2)]))), (4, (.bool false))] ⟨rfl, rfl, rfl⟩ ?_
  rintro s ⟨h2, h3, h4⟩
  refine .nsq ?_
  refine .seq ?_
  refine .seq ?_
  refine run_reg ?_
  refine e_end ?_
  refine g_v0 (.int .i64 0) rfl rfl ?_
  refine g_end ?_
  refine e_end ?_
  refine renew [(2, (.ref (.bx 2) 0 [] (.agg [(.int .i64 a_1.1), (.int .i64 a_1.2)]))), (3, (.ref (.bx 3) 0 [] (.agg [(.int .i64 b_2.1), (.int .i64 b_2.2)]))), (4, (.bool false)), (5, (.int .i64 0))] ⟨h2, h3, h4, rfl⟩ ?_
  rintro s ⟨h2, h3, h4, h5⟩
  refine .nsq ?_
  refine .block ?_
  refine .loop ?_
  exact t_f75_l1 H a_1 b_2 F 0 _ ⟨h2, h3, h4, h5⟩ h
end
def e75 (F : Nat) : Ent := ⟨75, da (fun (x : ((Int × Int) × (Int × Int) × Unit)) => w_eqIntA2 F x.1 x.2.1) (fun (r : Bool) => (Enc.enc (r : Bool))), 0, false, selF []⟩
theorem p75 {F : Nat} {x0 : (Int × Int)} {x1 : (Int × Int)} {r : Bool} (h : w_eqIntA2 F x0 x1 = some r) : (e75 F).den [Enc.enc x0, Enc.enc x1] = some (Enc.enc (r : Bool)) := da_put (f := fun (x : ((Int × Int) × (Int × Int) × Unit)) => w_eqIntA2 F x.1 x.2.1) (t := fun (r : Bool) => (Enc.enc (r : Bool))) (x0, x1, ()) h
theorem o75 {D : Den} {σ : Sig} {F : Nat} (hF : Fits2 Try.prog D σ) (H : H75 D σ F) : (e75 F).Ok Try.prog := by
  refine ⟨fun args r h => ?_, ⟨Try.f75, Try.func75, rfl, rfl⟩⟩
  obtain ⟨⟨x0, x1, _⟩, y, rfl, hy, rfl⟩ := da_open h
  exact contract_run hF (by kernel_rfl) Try.func75 rfl c75 (show 2 ≤ Try.f75.ntmps by decide) (t75 H x0 x1 _ ⟨rfl, rfl⟩ hy)
/- loop.example/g01109/laws.eqIntA2S -/
def A48_2 : AC := (AC.cond (O.t 14) AC.skip (AC.exit 0))
def A48_4 : AC := (AC.cond (O.t 26) (AC.seq (AC.reg [] [(I.mk (some 4) none false (X.v (A.mov (O.k (V.bool false)))))] []) AC.ret) AC.skip)
def A48_5 : AC := (AC.reg [] [(I.mk (some 15) none false (X.v (A.mov (O.t 5)))), (I.mk (some 16) none false (X.v (A.bin BinOp.add (O.t 15) (O.k (V.int IntKind.i64 (Int.ofNat 1)))))), (I.mk (some 5) none false (X.v (A.mov (O.t 16))))] [])
def A48_3 : AC := (AC.seq (AC.block 1 (AC.seq (AC.reg [] [(I.mk (some 17) none false (X.v (A.mov (O.t 0)))), (I.mk (some 18) none false (X.v (A.mov (O.t 5)))), (I.mk (some 19) none false (X.v (A.idx (O.t 17) (O.t 18) 2))), (I.mk (some 20) none false (X.v (A.load (Sh.ag [Sh.s, Sh.s]) (O.t 19)))), (I.mk (some 21) none false (X.v (A.mov (O.t 1)))), (I.mk (some 22) none false (X.v (A.mov (O.t 5)))), (I.mk (some 23) none false (X.v (A.idx (O.t 21) (O.t 22) 2))), (I.mk (some 24) none false (X.v (A.load (Sh.ag [Sh.s, Sh.s]) (O.t 23)))), (I.mk (some 25) none false (X.call (O.k (V.fn 75 [] [])) [(O.t 20), (O.t 24)])), (I.mk (some 26) none false (X.v (A.un UnOp.not (O.t 25))))] []) A48_4)) A48_5)
def A48_1 : AC := (AC.seq (AC.seq (AC.reg [] [(I.mk (some 11) none false (X.v (A.mov (O.t 5)))), (I.mk (some 12) none false (X.v (A.mov (O.t 0)))), (I.mk (some 13) none false (X.v (A.len (O.t 12)))), (I.mk (some 14) none false (X.v (A.bin BinOp.lss (O.t 11) (O.t 13))))] []) A48_2) A48_3)
def A48_6 : AC := (AC.seq (AC.reg [] [(I.mk (some 4) none false (X.v (A.mov (O.k (V.bool true)))))] []) AC.ret)
def A48_8 : AC := (AC.cond (O.t 10) (AC.seq (AC.reg [] [(I.mk (some 4) none false (X.v (A.mov (O.k (V.bool false)))))] []) AC.ret) AC.skip)
def A48_10 : AC := (AC.block 0 (AC.loop A48_1))
def A48_9 : AC := (AC.seq (AC.seq (AC.reg [] [(I.mk (some 5) none false (X.v (A.mov (O.k (V.int IntKind.i64 (Int.ofNat 0))))))] []) A48_10) A48_6)
def A48_7 : AC := (AC.seq (AC.seq (AC.reg [] [(I.mk (some 6) none false (X.v (A.mov (O.t 0)))), (I.mk (some 7) none false (X.v (A.len (O.t 6)))), (I.mk (some 8) none false (X.v (A.mov (O.t 1)))), (I.mk (some 9) none false (X.v (A.len (O.t 8)))), (I.mk (some 10) none false (X.v (A.bin BinOp.neq (O.t 7) (O.t 9))))] []) A48_8) A48_9)
def A48 : AC := (AC.seq (AC.reg [] [(I.mk (some 4) none false (X.v (A.mov (O.k (V.bool false)))))] []) A48_7)
def an48 : List An := []
theorem c48 : cC Try.prog Try.f48.ntmps an48 (Try.f48.body.getD .skip) = some A48 := by kernel_rfl
structure H48 (D : Den) (σ : Sig) (F : Nat) : Prop where
  c75 : ∀ (x0 : (Int × Int)) (x1 : (Int × Int)) r, w_eqIntA2 F x0 x1 = some r → D 75 [Enc.enc x0, Enc.enc x1] = some (Enc.enc (r : Bool))
  g75 : σ 75 = some (0, false)
abbrev R48 (r : Bool) : (Nat → V) → Prop := RR Try.prog [.tmp 4] 0 false (Enc.enc (r : Bool))
section
variable {D : Den} {σ : Sig} {F : Nat} {r : Bool}
def w_eqIntA2S_l1 (F : Nat) (a_1 : (List (Int × Int))) (b_2 : (List (Int × Int)))  : Nat → Int → Option Bool
  | 0, _ => none
  | k + 1, i_6 =>
    bif decide (i_6 < (a_1.length : Int)) then
      (idx a_1 i_6).bind fun e_10 =>
      (idx b_2 i_6).bind fun e_11 =>
      (w_eqIntA2 F e_10 e_11).bind fun r_12 =>
      bif (!r_12) then
        some false
      else
        (w_eqIntA2S_l1 F a_1 b_2 k) (w64 (i_6 + 1))
    else
      some true
theorem t_f48_l1 (H : H48 D σ F) (a_1 : (List (Int × Int))) (b_2 : (List (Int × Int)))  : ∀ (k : Nat) (i_6 : Int) (s : Nat → V), Facts [(0, (Enc.enc (a_1 : List (Int × Int)))), (1, (Enc.enc (b_2 : List (Int × Int)))), (4, (.bool false)), (5, (.int .i64 i_6))] s → w_eqIntA2S_l1 F a_1 b_2 k i_6 = some r → Run D σ (R48 r) (.run A48_1 [.lp A48_1, .bk 0, .sq A48_6]) s := by
  intro k
  induction k with
  | zero => intro i_6 s _ h; exact nomatch (h : (none : Option _) = some r)
  | succ k ih =>
    intro i_6 s hs h
    rw [w_eqIntA2S_l1] at h
    obtain ⟨h0, h1, h4, h5⟩ := hs
    refine .seq ?_
    refine .seq ?_
    refine run_reg ?_
    refine e_end ?_
    refine g_v1 (t := 5) (u := (.int .i64 i_6)) (.int .i64 i_6) h5 rfl rfl ?_
    refine g_v1 (t := 0) (u := (Enc.enc (a_1 : List (Int × Int)))) (Enc.enc (a_1 : List (Int × Int))) h0 rfl rfl ?_
    refine g_v (.int .i64 (a_1.length : Int)) (ev_len (xs := a_1) rfl) ?_
    refine g_v2 (t1 := 11) (t2 := 13) (u1 := (.int .i64 i_6)) (u2 := (.int .i64 (a_1.length : Int))) (.bool (decide (i_6 < (a_1.length : Int)))) rfl rfl rfl rfl ?_
    refine g_end ?_
    refine e_end ?_
    refine renew [(0, (Enc.enc (a_1 : List (Int × Int)))), (1, (Enc.enc (b_2 : List (Int × Int)))), (4, (.bool false)), (5, (.int .i64 i_6)), (14, (.bool (decide (i_6 < (a_1.length : Int)))))] ⟨h0, h1, h4, h5, rfl⟩ ?_
    rintro s ⟨h0, h1, h4, h5, h14⟩
    refine .nsq ?_
    refine run_cond (t := decide (i_6 < (a_1.length : Int))) h14 h (fun h => ?_) (fun h => ?_)
    · refine .skip ?_
      refine .nsq ?_
      refine .seq ?_
      refine .block ?_
      refine .seq ?_
      refine run_reg ?_
      refine e_end ?_
      refine g_v1 (t := 0) (u := (Enc.enc (a_1 : List (Int × Int)))) (Enc.enc (a_1 : List (Int × Int))) h0 rfl rfl ?_
      refine g_v1 (t := 5) (u := (.int .i64 i_6)) (.int .i64 i_6) h5 rfl rfl ?_
      obtain ⟨e_10, E_e_10, h⟩ := bind_some h
      refine g_v (.ref .sh 0 [] (.agg [(.int .i64 e_10.1), (.int .i64 e_10.2)])) (ev_idx (t := .sh) (lo := 0) (xs := a_1) rfl rfl E_e_10 rfl rfl) ?_
      refine g_v1 (t := 19) (u := (.ref .sh 0 [] (.agg [(.int .i64 e_10.1), (.int .i64 e_10.2)]))) (.agg [(.int .i64 e_10.1), (.int .i64 e_10.2)]) rfl rfl rfl ?_
      refine g_v1 (t := 1) (u := (Enc.enc (b_2 : List (Int × Int)))) (Enc.enc (b_2 : List (Int × Int))) h1 rfl rfl ?_
      refine g_v1 (t := 5) (u := (.int .i64 i_6)) (.int .i64 i_6) h5 rfl rfl ?_
      obtain ⟨e_11, E_e_11, h⟩ := bind_some h
      refine g_v (.ref .sh 0 [] (.agg [(.int .i64 e_11.1), (.int .i64 e_11.2)])) (ev_idx (t := .sh) (lo := 0) (xs := b_2) rfl rfl E_e_11 rfl rfl) ?_
      refine g_v1 (t := 23) (u := (.ref .sh 0 [] (.agg [(.int .i64 e_11.1), (.int .i64 e_11.2)]))) (.agg [(.int .i64 e_11.1), (.int .i64 e_11.2)]) rfl rfl rfl ?_
      obtain ⟨r_12, E_r_12, h⟩ := bind_some h
      refine g_call (m := 0) (al := false) (r := (Enc.enc (r_12 : Bool))) [Enc.enc (e_10 : (Int × Int)), Enc.enc (e_11 : (Int × Int))] (ta_cons (v := (.agg [(.int .i64 e_10.1), (.int .i64 e_10.2)])) rfl rfl (Enc.erase_enc (e_10 : (Int × Int))) (ta_cons (v := (.agg [(.int .i64 e_11.1), (.int .i64 e_11.2)])) rfl rfl (Enc.erase_enc (e_11 : (Int × Int))) ta_nil)) (H.c75 _ _ _ E_r_12) H.g75 rfl rfl rfl rfl ?_
      refine g_v1 (t := 25) (u := (.bool r_12)) (.bool (!r_12)) rfl rfl rfl ?_
      refine g_end ?_
      refine e_end ?_
      refine renew [(0, (Enc.enc (a_1 : List (Int × Int)))), (1, (Enc.enc (b_2 : List (Int × Int)))), (4, (.bool false)), (5, (.int .i64 i_6)), (26, (.bool (!r_12)))] ⟨h0, h1, h4, h5, rfl⟩ ?_
      rintro s ⟨h0, h1, h4, h5, h26⟩
      refine .nsq ?_
      refine run_cond (t := (!r_12)) h26 h (fun h => ?_) (fun h => ?_)
      · refine .seq ?_
        refine run_reg ?_
        refine e_end ?_
        refine g_v0 (.bool false) rfl rfl ?_
        refine g_end ?_
        refine e_end ?_
        refine renew [(0, (Enc.enc (a_1 : List (Int × Int)))), (1, (Enc.enc (b_2 : List (Int × Int)))), (4, (.bool false)), (5, (.int .i64 i_6))] ⟨h0, h1, rfl, h5⟩ ?_
        rintro s ⟨h0, h1, h4, h5⟩
        refine .nsq ?_
        refine .ret ?_
        have hr := Option.some.inj h
        subst hr
        exact rrA (res_tmp h4) rfl
      · refine .skip ?_
        refine .nbk ?_
        refine .nsq ?_
        refine run_reg ?_
        refine e_end ?_
        refine g_v1 (t := 5) (u := (.int .i64 i_6)) (.int .i64 i_6) h5 rfl rfl ?_
        refine g_v1 (t := 15) (u := (.int .i64 i_6)) (.int .i64 (w64 (i_6 + 1))) rfl rfl rfl ?_
        refine g_v1 (t := 16) (u := (.int .i64 (w64 (i_6 + 1)))) (.int .i64 (w64 (i_6 + 1))) rfl rfl rfl ?_
        refine g_end ?_
        refine e_end ?_
        refine renew [(0, (Enc.enc (a_1 : List (Int × Int)))), (1, (Enc.enc (b_2 : List (Int × Int)))), (4, (.bool false)), (5, (.int .i64 (w64 (i_6 + 1))))] ⟨h0, h1, h4, rfl⟩ ?_
        rintro s ⟨h0, h1, h4, h5⟩
        refine .nlp ?_
        exact ih (w64 (i_6 + 1)) _ ⟨h0, h1, h4, h5⟩ h
    · refine .exit ?_
      refine .esq ?_
      refine .elp ?_
      refine .ebk ?_
      refine .nsq ?_
      refine .seq ?_
      refine run_reg ?_
      refine e_end ?_
      refine g_v0 (.bool true) rfl rfl ?_
      refine g_end ?_
      refine e_end ?_
      refine renew [(4, (.bool true))] rfl ?_
      rintro s h4
      refine .nsq ?_
      refine .ret ?_
      have hr := Option.some.inj h
      subst hr
      exact rrA (res_tmp h4) rfl
def w_eqIntA2S (F : Nat) (a_1 : (List (Int × Int))) (b_2 : (List (Int × Int))) : Option Bool :=
  bif ((a_1.length : Int) != (b_2.length : Int)) then
    some false
  else
    w_eqIntA2S_l1 F a_1 b_2 F 0
theorem t48 (H : H48 D σ F) (a_1 : (List (Int × Int))) (b_2 : (List (Int × Int))) (s : Nat → V) (hs : Facts [(0, (Enc.enc (a_1 : List (Int × Int)))), (1, (Enc.enc (b_2 : List (Int × Int))))] s) (h : w_eqIntA2S F a_1 b_2 = some r) : Run D σ (R48 r) (.run A48 []) s := by
  unfold w_eqIntA2S at h
  obtain ⟨h0, h1⟩ := hs
  refine .seq ?_
  refine run_reg ?_
  refine e_end ?_
  refine g_v0 (.bool false) rfl rfl ?_
  refine g_end ?_
  refine e_end ?_
  refine renew [(0, (Enc.enc (a_1 : List (Int × Int)))), (1, (Enc.enc (b_2 : List (Int × Int)))), (4, (.bool false))] ⟨h0, h1, rfl⟩ ?_
  rintro s ⟨h0, h1, h4⟩
  refine .nsq ?_
  refine .seq ?_
  refine .seq ?_
  refine run_reg ?_
  refine e_end ?_
  refine g_v1 (t := 0) (u := (Enc.enc (a_1 : List (Int × Int)))) (Enc.enc (a_1 : List (Int × Int))) h0 rfl rfl ?_
  refine g_v (.int .i64 (a_1.length : Int)) (ev_len (xs := a_1) rfl) ?_
  refine g_v1 (t := 1) (u := (Enc.enc (b_2 : List (Int × Int)))) (Enc.enc (b_2 : List (Int × Int))) h1 rfl rfl ?_
  refine g_v (.int .i64 (b_2.length : Int)) (ev_len (xs := b_2) rfl) ?_
  refine g_v2 (t1 := 7) (t2 := 9) (u1 := (.int .i64 (a_1.length : Int))) (u2 := (.int .i64 (b_2.length : Int))) (.bool ((a_1.length : Int) != (b_2.length : Int))) rfl rfl rfl rfl ?_
  refine g_end ?_
  refine e_end ?_
  refine renew [(0, (Enc.enc (a_1 : List (Int × Int)))), (1, (Enc.enc (b_2 : List (Int × Int)))), (4, (.bool false)), (10, (.bool ((a_1.length : Int) != (b_2.length : Int))))] ⟨h0, h1, h4, rfl⟩ ?_
  rintro s ⟨h0, h1, h4, h10⟩
  refine .nsq ?_
  refine run_cond (t := ((a_1.length : Int) != (b_2.length : Int))) h10 h (fun h => ?_) (fun h => ?_)
  · refine .seq ?_
    refine run_reg ?_
    refine e_end ?_
    refine g_v0 (.bool false) rfl rfl ?_
    refine g_end ?_
    refine e_end ?_
    refine renew [(0, (Enc.enc (a_1 : List (Int × Int)))), (1, (Enc.enc (b_2 : List (Int × Int)))), (4, (.bool false))] ⟨h0, h1, rfl⟩ ?_
    rintro s ⟨h0, h1, h4⟩
    refine .nsq ?_
    refine .ret ?_
    have hr := Option.some.inj h
    subst hr
    exact rrA (res_tmp h4) rfl
  · refine .skip ?_
    refine .nsq ?_
    refine .seq ?_
    refine .seq ?_
    refine run_reg ?_
    refine e_end ?_
    refine g_v0 (.int .i64 0) rfl rfl ?_
    refine g_end ?_
    refine e_end ?_
    refine renew [(0, (Enc.enc (a_1 : List (Int × Int)))), (1, (Enc.enc (b_2 : List (Int × Int)))), (4, (.bool false)), (5, (.int .i64 0))] ⟨h0, h1, h4, rfl⟩ ?_
    rintro s ⟨h0, h1, h4, h5⟩
    refine .nsq ?_
    refine .block ?_
    refine .loop ?_
    exact t_f48_l1 H a_1 b_2 F 0 _ ⟨h0, h1, h4, h5⟩ h
end
def e48 (F : Nat) : Ent := ⟨48, da (fun (x : ((List (Int × Int)) × (List (Int × Int)) × Unit)) => w_eqIntA2S F x.1 x.2.1) (fun (r : Bool) => (Enc.enc (r : Bool))), 0, false, selF []⟩
theorem p48 {F : Nat} {x0 : (List (Int × Int))} {x1 : (List (Int × Int))} {r : Bool} (h : w_eqIntA2S F x0 x1 = some r) : (e48 F).den [Enc.enc x0, Enc.enc x1] = some (Enc.enc (r : Bool)) := da_put (f := fun (x : ((List (Int × Int)) × (List (Int × Int)) × Unit)) => w_eqIntA2S F x.1 x.2.1) (t := fun (r : Bool) => (Enc.enc (r : Bool))) (x0, x1, ()) h
theorem o48 {D : Den} {σ : Sig} {F : Nat} (hF : Fits2 Try.prog D σ) (H : H48 D σ F) : (e48 F).Ok Try.prog := by
  refine ⟨fun args r h => ?_, ⟨Try.f48, Try.func48, rfl, rfl⟩⟩
  obtain ⟨⟨x0, x1, _⟩, y, rfl, hy, rfl⟩ := da_open h
  exact contract_run hF (by kernel_rfl) Try.func48 rfl c48 (show 2 ≤ Try.f48.ntmps by decide) (t48 H x0 x1 _ ⟨rfl, rfl⟩ hy)
/- loop.example/g01109/laws.eqGraph -/
def A16_2 : AC := (AC.cond (O.t 9) (AC.seq (AC.reg [] [(I.mk (some 4) none false (X.v (A.mov (O.k (V.bool false)))))] []) AC.ret) AC.skip)
def A16_4 : AC := (AC.cond (O.t 15) (AC.seq (AC.reg [] [(I.mk (some 4) none false (X.v (A.mov (O.k (V.bool false)))))] []) AC.ret) AC.skip)
def A16_5 : AC := (AC.seq (AC.reg [] [(I.mk (some 4) none false (X.v (A.mov (O.k (V.bool true)))))] []) AC.ret)
def A16_3 : AC := (AC.seq (AC.seq (AC.reg [] [(I.mk (some 10) none false (X.v (A.fld (O.t 2) 1 1))), (I.mk (some 11) none false (X.v (A.load Sh.p (O.t 10)))), (I.mk (some 12) none false (X.v (A.fld (O.t 3) 1 1))), (I.mk (some 13) none false (X.v (A.load Sh.p (O.t 12)))), (I.mk (some 14) none false (X.call (O.k (V.fn 48 [] [])) [(O.t 11), (O.t 13)])), (I.mk (some 15) none false (X.v (A.un UnOp.not (O.t 14))))] []) A16_4) A16_5)
def A16_1 : AC := (AC.seq (AC.seq (AC.reg [] [(I.mk (some 5) none false (X.v (A.fld (O.t 2) 0 0))), (I.mk (some 6) none false (X.v (A.load Sh.s (O.t 5)))), (I.mk (some 7) none false (X.v (A.fld (O.t 3) 0 0))), (I.mk (some 8) none false (X.v (A.load Sh.s (O.t 7)))), (I.mk (some 9) none false (X.v (A.bin BinOp.neq (O.t 6) (O.t 8))))] []) A16_2) A16_3)
def A16 : AC := (AC.seq (AC.reg [.clr [2, 3]] [(I.mk (some 2) none false (X.box (O.t 0))), (I.mk (some 3) none false (X.box (O.t 1))), (I.mk (some 4) none false (X.v (A.mov (O.k (V.bool false)))))] []) A16_1)
def an16 : List An := [{ id := 0, pre := [.clr [2, 3]], ep := [], lin := [], sp := [] }]
theorem c16 : cC Try.prog Try.f16.ntmps an16 (Try.f16.body.getD .skip) = some A16 := by kernel_rfl
structure H16 (D : Den) (σ : Sig) (F : Nat) : Prop where
  c48 : ∀ (x0 : (List (Int × Int))) (x1 : (List (Int × Int))) r, w_eqIntA2S F x0 x1 = some r → D 48 [Enc.enc x0, Enc.enc x1] = some (Enc.enc (r : Bool))
  g48 : σ 48 = some (0, false)
abbrev R16 (r : Bool) : (Nat → V) → Prop := RR Try.prog [.tmp 4] 0 false (Enc.enc (r : Bool))
section
variable {D : Den} {σ : Sig} {F : Nat} {r : Bool}
def w_eqGraph (F : Nat) (a_1 : (Int × (List (Int × Int)))) (b_2 : (Int × (List (Int × Int)))) : Option Bool :=
  bif (a_1.1 != b_2.1) then
    some false
  else
    (w_eqIntA2S F a_1.2 b_2.2).bind fun r_3 =>
    bif (!r_3) then
      some false
    else
      some true
theorem t16 (H : H16 D σ F) (a_1 : (Int × (List (Int × Int)))) (b_2 : (Int × (List (Int × Int)))) (s : Nat → V) (hs : Facts [(0, (.agg [(.int .i64 a_1.1), (Enc.enc (a_1.2 : List (Int × Int)))])), (1, (.agg [(.int .i64 b_2.1), (Enc.enc (b_2.2 : List (Int × Int)))]))] s) (h : w_eqGraph F a_1 b_2 = some r) : Run D σ (R16 r) (.run A16 []) s := by
  unfold w_eqGraph at h
  obtain ⟨h0, h1⟩ := hs
  refine .seq ?_
  refine run_reg ?_
  refine e_clr ?_
  refine e_end ?_
  refine g_box (.agg [(.int .i64 a_1.1), (Enc.enc (a_1.2 : List (Int × Int)))]) (rd_of (keep_clear (s := s) (pk := [2, 3]) h0 rfl (map_agg (maps_cons rfl (maps_cons (Enc.map_enc _ (a_1.2 : List (Int × Int))) maps_nil)))) rfl) (gone_clear (s := s) (pk := [2, 3]) (t := 2) rfl) rfl ?_
  refine g_box (.agg [(.int .i64 b_2.1), (Enc.enc (b_2.2 : List (Int × Int)))]) (rd_of (keep_clear (s := s) (pk := [2, 3]) h1 rfl (map_agg (maps_cons rfl (maps_cons (Enc.map_enc _ (b_2.2 : List (Int × Int))) maps_nil)))) rfl) (gone_clear (s := s) (pk := [2, 3]) (t := 3) rfl) rfl ?_
  refine g_v0 (.bool false) rfl rfl ?_
  refine g_end ?_
  refine e_end ?_
  refine renew [(2, (.ref (.bx 2) 0 [] (.agg [(.int .i64 a_1.1), (Enc.enc (a_1.2 : List (Int × Int)))]))), (3, (.ref (.bx 3) 0 [] (.agg [(.int .i64 b_2.1), (Enc.enc (b_2.2 : List (Int × Int)))]))), (4, (.bool false))] ⟨rfl, rfl, rfl⟩ ?_
  rintro s ⟨h2, h3, h4⟩
  refine .nsq ?_
  refine .seq ?_
  refine .seq ?_
  refine run_reg ?_
  refine e_end ?_
  refine g_v1 (t := 2) (u := (.ref (.bx 2) 0 [] (.agg [(.int .i64 a_1.1), (Enc.enc (a_1.2 : List (Int × Int)))]))) (.ref (.bx 2) 0 [0] (.int .i64 a_1.1)) h2 rfl rfl ?_
  refine g_v1 (t := 5) (u := (.ref (.bx 2) 0 [0] (.int .i64 a_1.1))) (.int .i64 a_1.1) rfl rfl rfl ?_
  refine g_v1 (t := 3) (u := (.ref (.bx 3) 0 [] (.agg [(.int .i64 b_2.1), (Enc.enc (b_2.2 : List (Int × Int)))]))) (.ref (.bx 3) 0 [0] (.int .i64 b_2.1)) h3 rfl rfl ?_
  refine g_v1 (t := 7) (u := (.ref (.bx 3) 0 [0] (.int .i64 b_2.1))) (.int .i64 b_2.1) rfl rfl rfl ?_
  refine g_v2 (t1 := 6) (t2 := 8) (u1 := (.int .i64 a_1.1)) (u2 := (.int .i64 b_2.1)) (.bool (a_1.1 != b_2.1)) rfl rfl rfl rfl ?_
  refine g_end ?_
  refine e_end ?_
  refine renew [(2, (.ref (.bx 2) 0 [] (.agg [(.int .i64 a_1.1), (Enc.enc (a_1.2 : List (Int × Int)))]))), (3, (.ref (.bx 3) 0 [] (.agg [(.int .i64 b_2.1), (Enc.enc (b_2.2 : List (Int × Int)))]))), (4, (.bool false)), (9, (.bool (a_1.1 != b_2.1)))] ⟨h2, h3, h4, rfl⟩ ?_
  rintro s ⟨h2, h3, h4, h9⟩
  refine .nsq ?_
  refine run_cond (t := (a_1.1 != b_2.1)) h9 h (fun h => ?_) (fun h => ?_)
  · refine .seq ?_
    refine run_reg ?_
    refine e_end ?_
    refine g_v0 (.bool false) rfl rfl ?_
    refine g_end ?_
    refine e_end ?_
    refine renew [(2, (.ref (.bx 2) 0 [] (.agg [(.int .i64 a_1.1), (Enc.enc (a_1.2 : List (Int × Int)))]))), (3, (.ref (.bx 3) 0 [] (.agg [(.int .i64 b_2.1), (Enc.enc (b_2.2 : List (Int × Int)))]))), (4, (.bool false))] ⟨h2, h3, rfl⟩ ?_
    rintro s ⟨h2, h3, h4⟩
    refine .nsq ?_
    refine .ret ?_
    have hr := Option.some.inj h
    subst hr
    exact rrA (res_tmp h4) rfl
  · refine .skip ?_
    refine .nsq ?_
    refine .seq ?_
    refine .seq ?_
    refine run_reg ?_
    refine e_end ?_
    refine g_v1 (t := 2) (u := (.ref (.bx 2) 0 [] (.agg [(.int .i64 a_1.1), (Enc.enc (a_1.2 : List (Int × Int)))]))) (.ref (.bx 2) 0 [1] (Enc.enc (a_1.2 : List (Int × Int)))) h2 rfl rfl ?_
    refine g_v1 (t := 10) (u := (.ref (.bx 2) 0 [1] (Enc.enc (a_1.2 : List (Int × Int))))) (Enc.enc (a_1.2 : List (Int × Int))) rfl rfl rfl ?_
    refine g_v1 (t := 3) (u := (.ref (.bx 3) 0 [] (.agg [(.int .i64 b_2.1), (Enc.enc (b_2.2 : List (Int × Int)))]))) (.ref (.bx 3) 0 [1] (Enc.enc (b_2.2 : List (Int × Int)))) h3 rfl rfl ?_
    refine g_v1 (t := 12) (u := (.ref (.bx 3) 0 [1] (Enc.enc (b_2.2 : List (Int × Int))))) (Enc.enc (b_2.2 : List (Int × Int))) rfl rfl rfl ?_
    obtain ⟨r_3, E_r_3, h⟩ := bind_some h
    refine g_call (m := 0) (al := false) (r := (Enc.enc (r_3 : Bool))) [Enc.enc (a_1.2 : (List (Int × Int))), Enc.enc (b_2.2 : (List (Int × Int)))] (ta_cons (v := (Enc.enc (a_1.2 : List (Int × Int)))) rfl rfl (Enc.erase_enc (a_1.2 : (List (Int × Int)))) (ta_cons (v := (Enc.enc (b_2.2 : List (Int × Int)))) rfl rfl (Enc.erase_enc (b_2.2 : (List (Int × Int)))) ta_nil)) (H.c48 _ _ _ E_r_3) H.g48 rfl rfl rfl rfl ?_
    refine g_v1 (t := 14) (u := (.bool r_3)) (.bool (!r_3)) rfl rfl rfl ?_
    refine g_end ?_
    refine e_end ?_
    refine renew [(4, (.bool false)), (15, (.bool (!r_3)))] ⟨h4, rfl⟩ ?_
    rintro s ⟨h4, h15⟩
    refine .nsq ?_
    refine run_cond (t := (!r_3)) h15 h (fun h => ?_) (fun h => ?_)
    · refine .seq ?_
      refine run_reg ?_
      refine e_end ?_
      refine g_v0 (.bool false) rfl rfl ?_
      refine g_end ?_
      refine e_end ?_
      refine renew [(4, (.bool false))] rfl ?_
      rintro s h4
      refine .nsq ?_
      refine .ret ?_
      have hr := Option.some.inj h
      subst hr
      exact rrA (res_tmp h4) rfl
    · refine .skip ?_
      refine .nsq ?_
      refine .seq ?_
      refine run_reg ?_
      refine e_end ?_
      refine g_v0 (.bool true) rfl rfl ?_
      refine g_end ?_
      refine e_end ?_
      refine renew [(4, (.bool true))] rfl ?_
      rintro s h4
      refine .nsq ?_
      refine .ret ?_
      have hr := Option.some.inj h
      subst hr
      exact rrA (res_tmp h4) rfl
end
def e16 (F : Nat) : Ent := ⟨16, da (fun (x : ((Int × (List (Int × Int))) × (Int × (List (Int × Int))) × Unit)) => w_eqGraph F x.1 x.2.1) (fun (r : Bool) => (Enc.enc (r : Bool))), 0, false, selF []⟩
theorem p16 {F : Nat} {x0 : (Int × (List (Int × Int)))} {x1 : (Int × (List (Int × Int)))} {r : Bool} (h : w_eqGraph F x0 x1 = some r) : (e16 F).den [Enc.enc x0, Enc.enc x1] = some (Enc.enc (r : Bool)) := da_put (f := fun (x : ((Int × (List (Int × Int))) × (Int × (List (Int × Int))) × Unit)) => w_eqGraph F x.1 x.2.1) (t := fun (r : Bool) => (Enc.enc (r : Bool))) (x0, x1, ()) h
theorem o16 {D : Den} {σ : Sig} {F : Nat} (hF : Fits2 Try.prog D σ) (H : H16 D σ F) : (e16 F).Ok Try.prog := by
  refine ⟨fun args r h => ?_, ⟨Try.f16, Try.func16, rfl, rfl⟩⟩
  obtain ⟨⟨x0, x1, _⟩, y, rfl, hy, rfl⟩ := da_open h
  exact contract_run hF (by kernel_rfl) Try.func16 rfl c16 (show 2 ≤ Try.f16.ntmps by decide) (t16 H x0 x1 _ ⟨rfl, rfl⟩ hy)
/- loop.example/g01109/laws.eqIntS -/
def A17_2 : AC := (AC.cond (O.t 14) AC.skip (AC.exit 0))
def A17_4 : AC := (AC.cond (O.t 25) (AC.seq (AC.reg [] [(I.mk (some 4) none false (X.v (A.mov (O.k (V.bool false)))))] []) AC.ret) AC.skip)
def A17_5 : AC := (AC.reg [] [(I.mk (some 15) none false (X.v (A.mov (O.t 5)))), (I.mk (some 16) none false (X.v (A.bin BinOp.add (O.t 15) (O.k (V.int IntKind.i64 (Int.ofNat 1)))))), (I.mk (some 5) none false (X.v (A.mov (O.t 16))))] [])
def A17_3 : AC := (AC.seq (AC.block 1 (AC.seq (AC.reg [] [(I.mk (some 17) none false (X.v (A.mov (O.t 0)))), (I.mk (some 18) none false (X.v (A.mov (O.t 5)))), (I.mk (some 19) none false (X.v (A.idx (O.t 17) (O.t 18) 1))), (I.mk (some 20) none false (X.v (A.load Sh.s (O.t 19)))), (I.mk (some 21) none false (X.v (A.mov (O.t 1)))), (I.mk (some 22) none false (X.v (A.mov (O.t 5)))), (I.mk (some 23) none false (X.v (A.idx (O.t 21) (O.t 22) 1))), (I.mk (some 24) none false (X.v (A.load Sh.s (O.t 23)))), (I.mk (some 25) none false (X.v (A.bin BinOp.neq (O.t 20) (O.t 24))))] []) A17_4)) A17_5)
def A17_1 : AC := (AC.seq (AC.seq (AC.reg [] [(I.mk (some 11) none false (X.v (A.mov (O.t 5)))), (I.mk (some 12) none false (X.v (A.mov (O.t 0)))), (I.mk (some 13) none false (X.v (A.len (O.t 12)))), (I.mk (some 14) none false (X.v (A.bin BinOp.lss (O.t 11) (O.t 13))))] []) A17_2) A17_3)
def A17_6 : AC := (AC.seq (AC.reg [] [(I.mk (some 4) none false (X.v (A.mov (O.k (V.bool true)))))] []) AC.ret)
def A17_8 : AC := (AC.cond (O.t 10) (AC.seq (AC.reg [] [(I.mk (some 4) none false (X.v (A.mov (O.k (V.bool false)))))] []) AC.ret) AC.skip)
def A17_10 : AC := (AC.block 0 (AC.loop A17_1))
def A17_9 : AC := (AC.seq (AC.seq (AC.reg [] [(I.mk (some 5) none false (X.v (A.mov (O.k (V.int IntKind.i64 (Int.ofNat 0))))))] []) A17_10) A17_6)
def A17_7 : AC := (AC.seq (AC.seq (AC.reg [] [(I.mk (some 6) none false (X.v (A.mov (O.t 0)))), (I.mk (some 7) none false (X.v (A.len (O.t 6)))), (I.mk (some 8) none false (X.v (A.mov (O.t 1)))), (I.mk (some 9) none false (X.v (A.len (O.t 8)))), (I.mk (some 10) none false (X.v (A.bin BinOp.neq (O.t 7) (O.t 9))))] []) A17_8) A17_9)
def A17 : AC := (AC.seq (AC.reg [] [(I.mk (some 4) none false (X.v (A.mov (O.k (V.bool false)))))] []) A17_7)
def an17 : List An := []
theorem c17 : cC Try.prog Try.f17.ntmps an17 (Try.f17.body.getD .skip) = some A17 := by kernel_rfl
structure H17 (D : Den) (σ : Sig) (F : Nat) : Prop where
  mk ::
abbrev R17 (r : Bool) : (Nat → V) → Prop := RR Try.prog [.tmp 4] 0 false (Enc.enc (r : Bool))
section
variable {D : Den} {σ : Sig} {F : Nat} {r : Bool}
def w_eqIntS_l1 (F : Nat) (a_1 : (List Int)) (b_2 : (List Int))  : Nat → Int → Option Bool
  | 0, _ => none
  | k + 1, i_5 =>
    bif decide (i_5 < (a_1.length : Int)) then
      (idx a_1 i_5).bind fun e_8 =>
      (idx b_2 i_5).bind fun e_9 =>
      bif (e_8 != e_9) then
        some false
      else
        (w_eqIntS_l1 F a_1 b_2 k) (w64 (i_5 + 1))
    else
      some true
theorem t_f17_l1 (H : H17 D σ F) (a_1 : (List Int)) (b_2 : (List Int))  : ∀ (k : Nat) (i_5 : Int) (s : Nat → V), Facts [(0, (Enc.enc (a_1 : List Int))), (1, (Enc.enc (b_2 : List Int))), (4, (.bool false)), (5, (.int .i64 i_5))] s → w_eqIntS_l1 F a_1 b_2 k i_5 = some r → Run D σ (R17 r) (.run A17_1 [.lp A17_1, .bk 0, .sq A17_6]) s := by
  intro k
  induction k with
  | zero => intro i_5 s _ h; exact nomatch (h : (none : Option _) = some r)
  | succ k ih =>
    intro i_5 s hs h
    rw [w_eqIntS_l1] at h
    obtain ⟨h0, h1, h4, h5⟩ := hs
    refine .seq ?_
    refine .seq ?_
    refine run_reg ?_
    refine e_end ?_
    refine g_v1 (t := 5) (u := (.int .i64 i_5)) (.int .i64 i_5) h5 rfl rfl ?_
    refine g_v1 (t := 0) (u := (Enc.enc (a_1 : List Int))) (Enc.enc (a_1 : List Int)) h0 rfl rfl ?_
    refine g_v (.int .i64 (a_1.length : Int)) (ev_len (xs := a_1) rfl) ?_
    refine g_v2 (t1 := 11) (t2 := 13) (u1 := (.int .i64 i_5)) (u2 := (.int .i64 (a_1.length : Int))) (.bool (decide (i_5 < (a_1.length : Int)))) rfl rfl rfl rfl ?_
    refine g_end ?_
    refine e_end ?_
    refine renew [(0, (Enc.enc (a_1 : List Int))), (1, (Enc.enc (b_2 : List Int))), (4, (.bool false)), (5, (.int .i64 i_5)), (14, (.bool (decide (i_5 < (a_1.length : Int)))))] ⟨h0, h1, h4, h5, rfl⟩ ?_
    rintro s ⟨h0, h1, h4, h5, h14⟩
    refine .nsq ?_
    refine run_cond (t := decide (i_5 < (a_1.length : Int))) h14 h (fun h => ?_) (fun h => ?_)
    · refine .skip ?_
      refine .nsq ?_
      refine .seq ?_
      refine .block ?_
      refine .seq ?_
      refine run_reg ?_
      refine e_end ?_
      refine g_v1 (t := 0) (u := (Enc.enc (a_1 : List Int))) (Enc.enc (a_1 : List Int)) h0 rfl rfl ?_
      refine g_v1 (t := 5) (u := (.int .i64 i_5)) (.int .i64 i_5) h5 rfl rfl ?_
      obtain ⟨e_8, E_e_8, h⟩ := bind_some h
      refine g_v (.ref .sh 0 [] (.int .i64 e_8)) (ev_idx (t := .sh) (lo := 0) (xs := a_1) rfl rfl E_e_8 rfl rfl) ?_
      refine g_v1 (t := 19) (u := (.ref .sh 0 [] (.int .i64 e_8))) (.int .i64 e_8) rfl rfl rfl ?_
      refine g_v1 (t := 1) (u := (Enc.enc (b_2 : List Int))) (Enc.enc (b_2 : List Int)) h1 rfl rfl ?_
      refine g_v1 (t := 5) (u := (.int .i64 i_5)) (.int .i64 i_5) h5 rfl rfl ?_
      obtain ⟨e_9, E_e_9, h⟩ := bind_some h
      refine g_v (.ref .sh 0 [] (.int .i64 e_9)) (ev_idx (t := .sh) (lo := 0) (xs := b_2) rfl rfl E_e_9 rfl rfl) ?_
      refine g_v1 (t := 23) (u := (.ref .sh 0 [] (.int .i64 e_9))) (.int .i64 e_9) rfl rfl rfl ?_
      refine g_v2 (t1 := 20) (t2 := 24) (u1 := (.int .i64 e_8)) (u2 := (.int .i64 e_9)) (.bool (e_8 != e_9)) rfl rfl rfl rfl ?_
      refine g_end ?_
      refine e_end ?_
      refine renew [(0, (Enc.enc (a_1 : List Int))), (1, (Enc.enc (b_2 : List Int))), (4, (.bool false)), (5, (.int .i64 i_5)), (25, (.bool (e_8 != e_9)))] ⟨h0, h1, h4, h5, rfl⟩ ?_
      rintro s ⟨h0, h1, h4, h5, h25⟩
      refine .nsq ?_
      refine run_cond (t := (e_8 != e_9)) h25 h (fun h => ?_) (fun h => ?_)
      · refine .seq ?_
        refine run_reg ?_
        refine e_end ?_
        refine g_v0 (.bool false) rfl rfl ?_
        refine g_end ?_
        refine e_end ?_
        refine renew [(0, (Enc.enc (a_1 : List Int))), (1, (Enc.enc (b_2 : List Int))), (4, (.bool false)), (5, (.int .i64 i_5))] ⟨h0, h1, rfl, h5⟩ ?_
        rintro s ⟨h0, h1, h4, h5⟩
        refine .nsq ?_
        refine .ret ?_
        have hr := Option.some.inj h
        subst hr
        exact rrA (res_tmp h4) rfl
      · refine .skip ?_
        refine .nbk ?_
        refine .nsq ?_
        refine run_reg ?_
        refine e_end ?_
        refine g_v1 (t := 5) (u := (.int .i64 i_5)) (.int .i64 i_5) h5 rfl rfl ?_
        refine g_v1 (t := 15) (u := (.int .i64 i_5)) (.int .i64 (w64 (i_5 + 1))) rfl rfl rfl ?_
        refine g_v1 (t := 16) (u := (.int .i64 (w64 (i_5 + 1)))) (.int .i64 (w64 (i_5 + 1))) rfl rfl rfl ?_
        refine g_end ?_
        refine e_end ?_
        refine renew [(0, (Enc.enc (a_1 : List Int))), (1, (Enc.enc (b_2 : List Int))), (4, (.bool false)), (5, (.int .i64 (w64 (i_5 + 1))))] ⟨h0, h1, h4, rfl⟩ ?_
        rintro s ⟨h0, h1, h4, h5⟩
        refine .nlp ?_
        exact ih (w64 (i_5 + 1)) _ ⟨h0, h1, h4, h5⟩ h
    · refine .exit ?_
      refine .esq ?_
      refine .elp ?_
      refine .ebk ?_
      refine .nsq ?_
      refine .seq ?_
      refine run_reg ?_
      refine e_end ?_
      refine g_v0 (.bool true) rfl rfl ?_
      refine g_end ?_
      refine e_end ?_
      refine renew [(4, (.bool true))] rfl ?_
      rintro s h4
      refine .nsq ?_
      refine .ret ?_
      have hr := Option.some.inj h
      subst hr
      exact rrA (res_tmp h4) rfl
def w_eqIntS (F : Nat) (a_1 : (List Int)) (b_2 : (List Int)) : Option Bool :=
  bif ((a_1.length : Int) != (b_2.length : Int)) then
    some false
  else
    w_eqIntS_l1 F a_1 b_2 F 0
theorem t17 (H : H17 D σ F) (a_1 : (List Int)) (b_2 : (List Int)) (s : Nat → V) (hs : Facts [(0, (Enc.enc (a_1 : List Int))), (1, (Enc.enc (b_2 : List Int)))] s) (h : w_eqIntS F a_1 b_2 = some r) : Run D σ (R17 r) (.run A17 []) s := by
  unfold w_eqIntS at h
  obtain ⟨h0, h1⟩ := hs
  refine .seq ?_
  refine run_reg ?_
  refine e_end ?_
  refine g_v0 (.bool false) rfl rfl ?_
  refine g_end ?_
  refine e_end ?_
  refine renew [(0, (Enc.enc (a_1 : List Int))), (1, (Enc.enc (b_2 : List Int))), (4, (.bool false))] ⟨h0, h1, rfl⟩ ?_
  rintro s ⟨h0, h1, h4⟩
  refine .nsq ?_
  refine .seq ?_
  refine .seq ?_
  refine run_reg ?_
  refine e_end ?_
  refine g_v1 (t := 0) (u := (Enc.enc (a_1 : List Int))) (Enc.enc (a_1 : List Int)) h0 rfl rfl ?_
  refine g_v (.int .i64 (a_1.length : Int)) (ev_len (xs := a_1) rfl) ?_
  refine g_v1 (t := 1) (u := (Enc.enc (b_2 : List Int))) (Enc.enc (b_2 : List Int)) h1 rfl rfl ?_
  refine g_v (.int .i64 (b_2.length : Int)) (ev_len (xs := b_2) rfl) ?_
  refine g_v2 (t1 := 7) (t2 := 9) (u1 := (.int .i64 (a_1.length : Int))) (u2 := (.int .i64 (b_2.length : Int))) (.bool ((a_1.length : Int) != (b_2.length : Int))) rfl rfl rfl rfl ?_
  refine g_end ?_
  refine e_end ?_
  refine renew [(0, (Enc.enc (a_1 : List Int))), (1, (Enc.enc (b_2 : List Int))), (4, (.bool false)), (10, (.bool ((a_1.length : Int) != (b_2.length : Int))))] ⟨h0, h1, h4, rfl⟩ ?_
  rintro s ⟨h0, h1, h4, h10⟩
  refine .nsq ?_
  refine run_cond (t := ((a_1.length : Int) != (b_2.length : Int))) h10 h (fun h => ?_) (fun h => ?_)
  · refine .seq ?_
    refine run_reg ?_
    refine e_end ?_
    refine g_v0 (.bool false) rfl rfl ?_
    refine g_end ?_
    refine e_end ?_
    refine renew [(0, (Enc.enc (a_1 : List Int))), (1, (Enc.enc (b_2 : List Int))), (4, (.bool false))] ⟨h0, h1, rfl⟩ ?_
    rintro s ⟨h0, h1, h4⟩
    refine .nsq ?_
    refine .ret ?_
    have hr := Option.some.inj h
    subst hr
    exact rrA (res_tmp h4) rfl
  · refine .skip ?_
    refine .nsq ?_
    refine .seq ?_
    refine .seq ?_
    refine run_reg ?_
    refine e_end ?_
    refine g_v0 (.int .i64 0) rfl rfl ?_
    refine g_end ?_
    refine e_end ?_
    refine renew [(0, (Enc.enc (a_1 : List Int))), (1, (Enc.enc (b_2 : List Int))), (4, (.bool false)), (5, (.int .i64 0))] ⟨h0, h1, h4, rfl⟩ ?_
    rintro s ⟨h0, h1, h4, h5⟩
    refine .nsq ?_
    refine .block ?_
    refine .loop ?_
    exact t_f17_l1 H a_1 b_2 F 0 _ ⟨h0, h1, h4, h5⟩ h
end
def e17 (F : Nat) : Ent := ⟨17, da (fun (x : ((List Int) × (List Int) × Unit)) => w_eqIntS F x.1 x.2.1) (fun (r : Bool) => (Enc.enc (r : Bool))), 0, false, selF []⟩
theorem p17 {F : Nat} {x0 : (List Int)} {x1 : (List Int)} {r : Bool} (h : w_eqIntS F x0 x1 = some r) : (e17 F).den [Enc.enc x0, Enc.enc x1] = some (Enc.enc (r : Bool)) := da_put (f := fun (x : ((List Int) × (List Int) × Unit)) => w_eqIntS F x.1 x.2.1) (t := fun (r : Bool) => (Enc.enc (r : Bool))) (x0, x1, ()) h
theorem o17 {D : Den} {σ : Sig} {F : Nat} (hF : Fits2 Try.prog D σ) (H : H17 D σ F) : (e17 F).Ok Try.prog := by
  refine ⟨fun args r h => ?_, ⟨Try.f17, Try.func17, rfl, rfl⟩⟩
  obtain ⟨⟨x0, x1, _⟩, y, rfl, hy, rfl⟩ := da_open h
  exact contract_run hF (by kernel_rfl) Try.func17 rfl c17 (show 2 ≤ Try.f17.ntmps by decide) (t17 H x0 x1 _ ⟨rfl, rfl⟩ hy)
/- loop.example/g01109/laws.eqIntSS -/
def A24_2 : AC := (AC.cond (O.t 14) AC.skip (AC.exit 0))
def A24_4 : AC := (AC.cond (O.t 26) (AC.seq (AC.reg [] [(I.mk (some 4) none false (X.v (A.mov (O.k (V.bool false)))))] []) AC.ret) AC.skip)
def A24_5 : AC := (AC.reg [] [(I.mk (some 15) none false (X.v (A.mov (O.t 5)))), (I.mk (some 16) none false (X.v (A.bin BinOp.add (O.t 15) (O.k (V.int IntKind.i64 (Int.ofNat 1)))))), (I.mk (some 5) none false (X.v (A.mov (O.t 16))))] [])
def A24_3 : AC := (AC.seq (AC.block 1 (AC.seq (AC.reg [] [(I.mk (some 17) none false (X.v (A.mov (O.t 0)))), (I.mk (some 18) none false (X.v (A.mov (O.t 5)))), (I.mk (some 19) none false (X.v (A.idx (O.t 17) (O.t 18) 1))), (I.mk (some 20) none false (X.v (A.load Sh.p (O.t 19)))), (I.mk (some 21) none false (X.v (A.mov (O.t 1)))), (I.mk (some 22) none false (X.v (A.mov (O.t 5)))), (I.mk (some 23) none false (X.v (A.idx (O.t 21) (O.t 22) 1))), (I.mk (some 24) none false (X.v (A.load Sh.p (O.t 23)))), (I.mk (some 25) none false (X.call (O.k (V.fn 17 [] [])) [(O.t 20), (O.t 24)])), (I.mk (some 26) none false (X.v (A.un UnOp.not (O.t 25))))] []) A24_4)) A24_5)
def A24_1 : AC := (AC.seq (AC.seq (AC.reg [] [(I.mk (some 11) none false (X.v (A.mov (O.t 5)))), (I.mk (some 12) none false (X.v (A.mov (O.t 0)))), (I.mk (some 13) none false (X.v (A.len (O.t 12)))), (I.mk (some 14) none false (X.v (A.bin BinOp.lss (O.t 11) (O.t 13))))] []) A24_2) A24_3)
def A24_6 : AC := (AC.seq (AC.reg [] [(I.mk (some 4) none false (X.v (A.mov (O.k (V.bool true)))))] []) AC.ret)
def A24_8 : AC := (AC.cond (O.t 10) (AC.seq (AC.reg [] [(I.mk (some 4) none false (X.v (A.mov (O.k (V.bool false)))))] []) AC.ret) AC.skip)
def A24_10 : AC := (AC.block 0 (AC.loop A24_1))
def A24_9 : AC := (AC.seq (AC.seq (AC.reg [] [(I.mk (some 5) none false (X.v (A.mov (O.k (V.int IntKind.i64 (Int.ofNat 0))))))] []) A24_10) A24_6)
def A24_7 : AC := (AC.seq (AC.seq (AC.reg [] [(I.mk (some 6) none false (X.v (A.mov (O.t 0)))), (I.mk (some 7) none false (X.v (A.len (O.t 6)))), (I.mk (some 8) none false (X.v (A.mov (O.t 1)))), (I.mk (some 9) none false (X.v (A.len (O.t 8)))), (I.mk (some 10) none false (X.v (A.bin BinOp.neq (O.t 7) (O.t 9))))] []) A24_8) A24_9)
def A24 : AC := (AC.seq (AC.reg [] [(I.mk (some 4) none false (X.v (A.mov (O.k (V.bool false)))))] []) A24_7)
def an24 : List An := []
theorem c24 : cC Try.prog Try.f24.ntmps an24 (Try.f24.body.getD .skip) = some A24 := by kernel_rfl
structure H24 (D : Den) (σ : Sig) (F : Nat) : Prop where
  c17 : ∀ (x0 : (List Int)) (x1 : (List Int)) r, w_eqIntS F x0 x1 = some r → D 17 [Enc.enc x0, Enc.enc x1] = some (Enc.enc (r : Bool))
  g17 : σ 17 = some (0, false)
abbrev R24 (r : Bool) : (Nat → V) → Prop := RR Try.prog [.tmp 4] 0 false (Enc.enc (r : Bool))
section
variable {D : Den} {σ : Sig} {F : Nat} {r : Bool}
def w_eqIntSS_l1 (F : Nat) (a_1 : (List (List Int))) (b_2 : (List (List Int)))  : Nat → Int → Option Bool
  | 0, _ => none
  | k + 1, i_6 =>
    bif decide (i_6 < (a_1.length : Int)) then
      (idx a_1 i_6).bind fun e_10 =>
      (idx b_2 i_6).bind fun e_11 =>
      (w_eqIntS F e_10 e_11).bind fun r_12 =>
      bif (!r_12) then
        some false
      else
        (w_eqIntSS_l1 F a_1 b_2 k) (w64 (i_6 + 1))
    else
      some true
theorem t_f24_l1 (H : H24 D σ F) (a_1 : (List (List Int))) (b_2 : (List (List Int)))  : ∀ (k : Nat) (i_6 : Int) (s : Nat → V), Facts [(0, (Enc.enc (a_1 : List (List Int)))), (1, (Enc.enc (b_2 : List (List Int)))), (4, (.bool false)), (5, (.int .i64 i_6))] s → w_eqIntSS_l1 F a_1 b_2 k i_6 = some r → Run D σ (R24 r) (.run A24_1 [.lp A24_1, .bk 0, .sq A24_6]) s := by
  intro k
  induction k with
  | zero => intro i_6 s _ h; exact nomatch (h : (none : Option _) = some r)
  | succ k ih =>
    intro i_6 s hs h
    rw [w_eqIntSS_l1] at h
    obtain ⟨h0, h1, h4, h5⟩ := hs
    refine .seq ?_
    refine .seq ?_
    refine run_reg ?_
    refine e_end ?_
    refine g_v1 (t := 5) (u := (.int .i64 i_6)) (.int .i64 i_6) h5 rfl rfl ?_
    refine g_v1 (t := 0) (u := (Enc.enc (a_1 : List (List Int)))) (Enc.enc (a_1 : List (List Int))) h0 rfl rfl ?_
    refine g_v (.int .i64 (a_1.length : Int)) (ev_len (xs := a_1) rfl) ?_
    refine g_v2 (t1 := 11) (t2 := 13) (u1 := (.int .i64 i_6)) (u2 := (.int .i64 (a_1.length : Int))) (.bool (decide (i_6 < (a_1.length : Int)))) rfl rfl rfl rfl ?_
    refine g_end ?_
    refine e_end ?_
    refine renew [(0, (Enc.enc (a_1 : List (List Int)))), (1, (Enc.enc (b_2 : List (List Int)))), (4, (.bool false)), (5, (.int .i64 i_6)), (14, (.bool (decide (i_6 < (a_1.length : Int)))))] ⟨h0, h1, h4, h5, rfl⟩ ?_
    rintro s ⟨h0, h1, h4, h5, h14⟩
    refine .nsq ?_
    refine run_cond (t := decide (i_6 < (a_1.length : Int))) h14 h (fun h => ?_) (fun h => ?_)
    · refine .skip ?_
      refine .nsq ?_
      refine .seq ?_
      refine .block ?_
      refine .seq ?_
      refine run_reg ?_
      refine e_end ?_
      refine g_v1 (t := 0) (u := (Enc.enc (a_1 : List (List Int)))) (Enc.enc (a_1 : List (List Int))) h0 rfl rfl ?_
      refine g_v1 (t := 5) (u := (.int .i64 i_6)) (.int .i64 i_6) h5 rfl rfl ?_
      obtain ⟨e_10, E_e_10, h⟩ := bind_some h
      refine g_v (.ref .sh 0 [] (Enc.enc (e_10 : List Int))) (ev_idx (t := .sh) (lo := 0) (xs := a_1) rfl rfl E_e_10 rfl rfl) ?_
      refine g_v1 (t := 19) (u := (.ref .sh 0 [] (Enc.enc (e_10 : List Int)))) (Enc.enc (e_10 : List Int)) rfl rfl rfl ?_
      refine g_v1 (t := 1) (u := (Enc.enc (b_2 : List (List Int)))) (Enc.enc (b_2 : List (List Int))) h1 rfl rfl ?_
      refine g_v1 (t := 5) (u := (.int .i64 i_6)) (.int .i64 i_6) h5 rfl rfl ?_
      obtain ⟨e_11, E_e_11, h⟩ := bind_some h
      refine g_v (.ref .sh 0 [] (Enc.enc (e_11 : List Int))) (ev_idx (t := .sh) (lo := 0) (xs := b_2) rfl rfl E_e_11 rfl rfl) ?_
      refine g_v1 (t := 23) (u := (.ref .sh 0 [] (Enc.enc (e_11 : List Int)))) (Enc.enc (e_11 : List Int)) rfl rfl rfl ?_
      obtain ⟨r_12, E_r_12, h⟩ := bind_some h
      refine g_call (m := 0) (al := false) (r := (Enc.enc (r_12 : Bool))) [Enc.enc (e_10 : (List Int)), Enc.enc (e_11 : (List Int))] (ta_cons (v := (Enc.enc (e_10 : List Int))) rfl rfl (Enc.erase_enc (e_10 : (List Int))) (ta_cons (v := (Enc.enc (e_11 : List Int))) rfl rfl (Enc.erase_enc (e_11 : (List Int))) ta_nil)) (H.c17 _ _ _ E_r_12) H.g17 rfl rfl rfl rfl ?_
      refine g_v1 (t := 25) (u := (.bool r_12)) (.bool (!r_12)) rfl rfl rfl ?_
      refine g_end ?_
      refine e_end ?_
      refine renew [(0, (Enc.enc (a_1 : List (List Int)))), (1, (Enc.enc (b_2 : List (List Int)))), (4, (.bool false)), (5, (.int .i64 i_6)), (26, (.bool (!r_12)))] ⟨h0, h1, h4, h5, rfl⟩ ?_
      rintro s ⟨h0, h1, h4, h5, h26⟩
      refine .nsq ?_
      refine run_cond (t := (!r_12)) h26 h (fun h => ?_) (fun h => ?_)
      · refine .seq ?_
        refine run_reg ?_
        refine e_end ?_
        refine g_v0 (.bool false) rfl rfl ?_
        refine g_end ?_
        refine e_end ?_
        refine renew [(0, (Enc.enc (a_1 : List (List Int)))), (1, (Enc.enc (b_2 : List (List Int)))), (4, (.bool false)), (5, (.int .i64 i_6))] ⟨h0, h1, rfl, h5⟩ ?_
        rintro s ⟨h0, h1, h4, h5⟩
        refine .nsq ?_
        refine .ret ?_
        have hr := Option.some.inj h
        subst hr
        exact rrA (res_tmp h4) rfl
      · refine .skip ?_
        refine .nbk ?_
        refine .nsq ?_
        refine run_reg ?_
        refine e_end ?_
        refine g_v1 (t := 5) (u := (.int .i64 i_6)) (.int .i64 i_6) h5 rfl rfl ?_
        refine g_v1 (t := 15) (u := (.int .i64 i_6)) (.int .i64 (w64 (i_6 + 1))) rfl rfl rfl ?_
        refine g_v1 (t := 16) (u := (.int .i64 (w64 (i_6 + 1)))) (.int .i64 (w64 (i_6 + 1))) rfl rfl rfl ?_
        refine g_end ?_
        refine e_end ?_
        refine renew [(0, (Enc.enc (a_1 : List (List Int)))), (1, (Enc.enc (b_2 : List (List Int)))), (4, (.bool false)), (5, (.int .i64 (w64 (i_6 + 1))))] ⟨h0, h1, h4, rfl⟩ ?_
        rintro s ⟨h0, h1, h4, h5⟩
        refine .nlp ?_
        exact ih (w64 (i_6 + 1)) _ ⟨h0, h1, h4, h5⟩ h
    · refine .exit ?_
      refine .esq ?_
      refine .elp ?_
      refine .ebk ?_
      refine .nsq ?_
      refine .seq ?_
      refine run_reg ?_
      refine e_end ?_
      refine g_v0 (.bool true) rfl rfl ?_
      refine g_end ?_
      refine e_end ?_
      refine renew [(4, (.bool true))] rfl ?_
      rintro s h4
      refine .nsq ?_
      refine .ret ?_
      have hr := Option.some.inj h
      subst hr
      exact rrA (res_tmp h4) rfl
def w_eqIntSS (F : Nat) (a_1 : (List (List Int))) (b_2 : (List (List Int))) : Option Bool :=
  bif ((a_1.length : Int) != (b_2.length : Int)) then
    some false
  else
    w_eqIntSS_l1 F a_1 b_2 F 0
theorem t24 (H : H24 D σ F) (a_1 : (List (List Int))) (b_2 : (List (List Int))) (s : Nat → V) (hs : Facts [(0, (Enc.enc (a_1 : List (List Int)))), (1, (Enc.enc (b_2 : List (List Int))))] s) (h : w_eqIntSS F a_1 b_2 = some r) : Run D σ (R24 r) (.run A24 []) s := by
  unfold w_eqIntSS at h
  obtain ⟨h0, h1⟩ := hs
  refine .seq ?_
  refine run_reg ?_
  refine e_end ?_
  refine g_v0 (.bool false) rfl rfl ?_
  refine g_end ?_
  refine e_end ?_
  refine renew [(0, (Enc.enc (a_1 : List (List Int)))), (1, (Enc.enc (b_2 : List (List Int)))), (4, (.bool false))] ⟨h0, h1, rfl⟩ ?_
  rintro s ⟨h0, h1, h4⟩
  refine .nsq ?_
  refine .seq ?_
  refine .seq ?_
  refine run_reg ?_
  refine e_end ?_
  refine g_v1 (t := 0) (u := (Enc.enc (a_1 : List (List Int)))) (Enc.enc (a_1 : List (List Int))) h0 rfl rfl ?_
  refine g_v (.int .i64 (a_1.length : Int)) (ev_len (xs := a_1) rfl) ?_
  refine g_v1 (t := 1) (u := (Enc.enc (b_2 : List (List Int)))) (Enc.enc (b_2 : List (List Int))) h1 rfl rfl ?_
  refine g_v (.int .i64 (b_2.length : Int)) (ev_len (xs := b_2) rfl) ?_
  refine g_v2 (t1 := 7) (t2 := 9) (u1 := (.int .i64 (a_1.length : Int))) (u2 := (.int .i64 (b_2.length : Int))) (.bool ((a_1.length : Int) != (b_2.length : Int))) rfl rfl rfl rfl ?_
  refine g_end ?_
  refine e_end ?_
  refine renew [(0, (Enc.enc (a_1 : List (List Int)))), (1, (Enc.enc (b_2 : List (List Int)))), (4, (.bool false)), (10, (.bool ((a_1.length : Int) != (b_2.length : Int))))] ⟨h0, h1, h4, rfl⟩ ?_
  rintro s ⟨h0, h1, h4, h10⟩
  refine .nsq ?_
  refine run_cond (t := ((a_1.length : Int) != (b_2.length : Int))) h10 h (fun h => ?_) (fun h => ?_)
  · refine .seq ?_
    refine run_reg ?_
    refine e_end ?_
    refine g_v0 (.bool false) rfl rfl ?_
    refine g_end ?_
    refine e_end ?_
    refine renew [(0, (Enc.enc (a_1 : List (List Int)))), (1, (Enc.enc (b_2 : List (List Int)))), (4, (.bool false))] ⟨h0, h1, rfl⟩ ?_
    rintro s ⟨h0, h1, h4⟩
    refine .nsq ?_
    refine .ret ?_
    have hr := Option.some.inj h
    subst hr
    exact rrA (res_tmp h4) rfl
  · refine .skip ?_
    refine .nsq ?_
    refine .seq ?_
    refine .seq ?_
    refine run_reg ?_
    refine e_end ?_
    refine g_v0 (.int .i64 0) rfl rfl ?_
    refine g_end ?_
    refine e_end ?_
    refine renew [(0, (Enc.enc (a_1 : List (List Int)))), (1, (Enc.enc (b_2 : List (List Int)))), (4, (.bool false)), (5, (.int .i64 0))] ⟨h0, h1, h4, rfl⟩ ?_
    rintro s ⟨h0, h1, h4, h5⟩
    refine .nsq ?_
    refine .block ?_
    refine .loop ?_
    exact t_f24_l1 H a_1 b_2 F 0 _ ⟨h0, h1, h4, h5⟩ h
end
def e24 (F : Nat) : Ent := ⟨24, da (fun (x : ((List (List Int)) × (List (List Int)) × Unit)) => w_eqIntSS F x.1 x.2.1) (fun (r : Bool) => (Enc.enc (r : Bool))), 0, false, selF []⟩
theorem p24 {F : Nat} {x0 : (List (List Int))} {x1 : (List (List Int))} {r : Bool} (h : w_eqIntSS F x0 x1 = some r) : (e24 F).den [Enc.enc x0, Enc.enc x1] = some (Enc.enc (r : Bool)) := da_put (f := fun (x : ((List (List Int)) × (List (List Int)) × Unit)) => w_eqIntSS F x.1 x.2.1) (t := fun (r : Bool) => (Enc.enc (r : Bool))) (x0, x1, ()) h
theorem o24 {D : Den} {σ : Sig} {F : Nat} (hF : Fits2 Try.prog D σ) (H : H24 D σ F) : (e24 F).Ok Try.prog := by
  refine ⟨fun args r h => ?_, ⟨Try.f24, Try.func24, rfl, rfl⟩⟩
  obtain ⟨⟨x0, x1, _⟩, y, rfl, hy, rfl⟩ := da_open h
  exact contract_run hF (by kernel_rfl) Try.func24 rfl c24 (show 2 ≤ Try.f24.ntmps by decide) (t24 H x0 x1 _ ⟨rfl, rfl⟩ hy)
/- loop.example/g01109/laws.FnExactIsBramble -/
def A6_1 : AC := (AC.cond (O.t 47) (AC.seq (AC.reg [] [(I.mk (some 4) none false (X.v (A.mov (O.k (V.bool false)))))] []) AC.ret) AC.skip)
def A6_3 : AC := (AC.cond (O.t 52) (AC.seq (AC.reg [] [(I.mk (some 4) none false (X.v (A.mov (O.k (V.bool false)))))] []) AC.ret) AC.skip)
def A6_5 : AC := (AC.cond (O.t 57) (AC.seq (AC.reg [] [(I.mk (some 4) none false (X.v (A.mov (O.k (V.bool false)))))] []) AC.ret) AC.skip)
def A6_6 : AC := (AC.seq (AC.reg [] [(I.mk (some 4) none false (X.v (A.mov (O.k (V.bool true)))))] []) AC.ret)
def A6_4 : AC := (AC.seq (AC.seq (AC.reg [] [(I.mk (some 53) none false (X.v (A.mov (O.t 9)))), (I.mk (some 54) none false (X.v (A.mov (O.t 1)))), (I.mk (some 55) none false (X.call (O.k (V.fn 22 [] [])) [(O.t 54)])), (I.mk (some 56) none false (X.call (O.k (V.fn 24 [] [])) [(O.t 53), (O.t 55)])), (I.mk (some 57) none false (X.v (A.un UnOp.not (O.t 56))))] []) A6_5) A6_6)
def A6_2 : AC := (AC.seq (AC.seq (AC.reg [] [(I.mk (some 48) none false (X.v (A.load (Sh.ag [Sh.s, Sh.p]) (O.t 8)))), (I.mk (some 49) none false (X.v (A.load (Sh.ag [Sh.s, Sh.p]) (O.t 2)))), (I.mk (some 50) none false (X.call (O.k (V.fn 13 [] [])) [(O.t 49)])), (I.mk (some 51) none false (X.call (O.k (V.fn 16 [] [])) [(O.t 48), (O.t 50)])), (I.mk (some 52) none false (X.v (A.un UnOp.not (O.t 51))))] []) A6_3) A6_4)
def A6_10 : AC := (AC.cond (O.t 16) (AC.seq (AC.reg [] [(I.mk (some 4) none false (X.v (A.mov (O.k (V.bool true)))))] []) AC.ret) AC.skip)
def A6_13 : AC := (AC.cond (O.t 21) (AC.seq (AC.reg [] [(I.mk (some 4) none false (X.v (A.mov (O.k (V.bool true)))))] []) AC.ret) AC.skip)
def A6_18 : AC := (AC.seq (AC.seq (AC.reg [] [(I.mk (some 40) none false (X.v (A.mov (O.t 10)))), (I.mk (some 41) none false (X.v (A.mov (O.t 6)))), (I.mk (some 42) none false (X.v (A.beq true (O.t 40) (O.t 41)))), (I.mk (some 43) none false (X.v (A.mov (O.t 42)))), (I.mk (some 44) (some (43, false)) false (X.v (A.mov (O.t 11)))), (I.mk (some 45) (some (43, false)) false (X.v (A.mov (O.t 7)))), (I.mk (some 46) (some (43, false)) false (X.v (A.beq true (O.t 44) (O.t 45)))), (I.mk (some 47) none false (X.v (A.pick (O.t 43) (O.k (V.bool true)) (O.t 46))))] []) A6_1) A6_2)
def A6_17 : AC := (AC.seq (AC.reg [] [(I.mk (some 35) none false (X.v (A.load (Sh.ag [Sh.s, Sh.p]) (O.t 8)))), (I.mk (some 36) none false (X.v (A.mov (O.t 9)))), (I.mk (some 37) none false (X.call (O.k (V.fn 26 [] [])) [(O.t 35), (O.t 36)])), (I.mk (some 34) none false (X.v (A.mov (O.t 37)))), (I.mk (some 38) none false (X.v (A.extS (O.t 34) 0))), (I.mk (some 39) none false (X.v (A.extS (O.t 34) 1))), (I.mk (some 10) none false (X.v (A.mov (O.t 38)))), (I.mk (some 11) none false (X.v (A.mov (O.t 39))))] []) A6_18)
def A6_16 : AC := (AC.seq (AC.reg [] [(I.mk (some 32) none false (X.v (A.mov (O.t 1)))), (I.mk (some 33) none false (X.call (O.k (V.fn 22 [] [])) [(O.t 32)])), (I.mk (some 9) none false (X.v (A.mov (O.t 33))))] []) A6_17)
def A6_15 : AC := (AC.seq (AC.reg [.clr [8]] [(I.mk (some 30) none false (X.v (A.load (Sh.ag [Sh.s, Sh.p]) (O.t 2)))), (I.mk (some 31) none false (X.call (O.k (V.fn 13 [] [])) [(O.t 30)])), (I.mk (some 8) none false (X.alloc (V.agg [(V.int IntKind.i64 (Int.ofNat 0)), (V.sl Tok.nl (Sh.ag [Sh.s, Sh.s]) 0 [])]))), (I.mk none none false (X.store (Sh.ag [Sh.s, Sh.p]) (O.t 8) (O.t 31)))] []) A6_16)
def A6_14 : AC := (AC.seq (AC.reg [] [(I.mk (some 23) none false (X.v (A.load (Sh.ag [Sh.s, Sh.p]) (O.t 2)))), (I.mk (some 24) none false (X.call (O.k (V.fn 13 [] [])) [(O.t 23)])), (I.mk (some 25) none false (X.v (A.mov (O.t 1)))), (I.mk (some 26) none false (X.call (O.k (V.fn 22 [] [])) [(O.t 25)])), (I.mk (some 27) none false (X.call (O.k (V.fn 25 [] [])) [(O.t 24), (O.t 26)])), (I.mk (some 22) none false (X.v (A.mov (O.t 27)))), (I.mk (some 28) none false (X.v (A.extS (O.t 22) 0))), (I.mk (some 29) none false (X.v (A.extS (O.t 22) 1))), (I.mk (some 6) none false (X.v (A.mov (O.t 28)))), (I.mk (some 7) none false (X.v (A.mov (O.t 29))))] []) A6_15)
def A6_12 : AC := (AC.seq (AC.seq (AC.reg [] [(I.mk (some 20) none false (X.v (A.mov (O.t 5)))), (I.mk (some 21) none false (X.v (A.bin BinOp.lss (O.t 20) (O.k (V.int IntKind.i64 (Int.ofNat 0))))))] []) A6_13) A6_14)
def A6_11 : AC := (AC.seq (AC.reg [] [(I.mk (some 17) none false (X.v (A.mov (O.t 1)))), (I.mk (some 18) none false (X.v (A.mov (O.t 5)))), (I.mk (some 19) none false (X.call (O.k (V.fn 20 [] [])) [(O.t 17), (O.t 18)])), (I.mk (some 5) none false (X.v (A.mov (O.t 19))))] []) A6_12)
def A6_9 : AC := (AC.seq (AC.seq (AC.reg [] [(I.mk (some 15) none false (X.v (A.mov (O.t 5)))), (I.mk (some 16) none false (X.v (A.bin BinOp.lss (O.t 15) (O.k (V.int IntKind.i64 (Int.ofNat 0))))))] []) A6_10) A6_11)
def A6_8 : AC := (AC.seq (AC.reg [] [(I.mk (some 12) none false (X.v (A.load (Sh.ag [Sh.s, Sh.p]) (O.t 2)))), (I.mk (some 13) none false (X.v (A.mov (O.t 5)))), (I.mk (some 14) none false (X.call (O.k (V.fn 11 [] [])) [(O.t 12), (O.t 13)])), (I.mk (some 5) none false (X.v (A.mov (O.t 14))))] []) A6_9)
def A6_7 : AC := (AC.seq (AC.reg [] [(I.mk (some 5) none false (X.v (A.mov (O.k (V.int IntKind.i64 (Int.ofNat 1048576))))))] []) A6_8)
def A6 : AC := (AC.seq (AC.reg [.clr [2]] [(I.mk (some 2) none false (X.box (O.t 0))), (I.mk (some 4) none false (X.v (A.mov (O.k (V.bool false)))))] []) A6_7)
def an6 : List An := [{ id := 0, pre := [.clr [2]], ep := [], lin := [], sp := [] }, { id := 9, pre := [.clr [8]], ep := [], lin := [], sp := [] }]
theorem c6 : cC Try.prog Try.f6.ntmps an6 (Try.f6.body.getD .skip) = some A6 := by kernel_rfl
structure H6 (D : Den) (σ : Sig) (F : Nat) : Prop where
  c11 : ∀ (x0 : (Int × (List (Int × Int)))) (x1 : Int) r, w_szGraph F x0 x1 = some r → D 11 [Enc.enc x0, Enc.enc x1] = some (Enc.enc (r : Int))
  g11 : σ 11 = some (0, false)
  c20 : ∀ (x0 : (List (List Int))) (x1 : Int) r, w_szIntSS F x0 x1 = some r → D 20 [Enc.enc x0, Enc.enc x1] = some (Enc.enc (r : Int))
  g20 : σ 20 = some (0, false)
  c13 : ∀ (x0 : (Int × (List (Int × Int)))) r, w_toGraph F x0 = some r → D 13 [Enc.enc x0] = some (Enc.enc (r : (Int × (List (Int × Int)))))
  g13 : σ 13 = some (0, true)
  c22 : ∀ (x0 : (List (List Int))) r, w_toIntSS F x0 = some r → D 22 [Enc.enc x0] = some (Enc.enc (r : (List (List Int))))
  g22 : σ 22 = some (0, true)
  c25 : ∀ (x0 : (Int × (List (Int × Int)))) (x1 : (List (List Int))) r, s_IsBramble F x0 x1 = some r → D 25 [Enc.enc x0, Enc.enc x1] = some (.tup [Enc.enc (r.1 : Bool), Enc.enc (r.2 : Bool)])
  g25 : σ 25 = some (0, false)
  c26 : ∀ (x0 : (Int × (List (Int × Int)))) (x1 : (List (List Int))) r, i_IsBramble F x0 x1 = some r → D 26 [Enc.enc x0, Enc.enc x1] = some (.tup [Enc.enc (r.1 : Bool), Enc.enc (r.2 : Bool)])
  g26 : σ 26 = some (0, false)
  c16 : ∀ (x0 : (Int × (List (Int × Int)))) (x1 : (Int × (List (Int × Int)))) r, w_eqGraph F x0 x1 = some r → D 16 [Enc.enc x0, Enc.enc x1] = some (Enc.enc (r : Bool))
  g16 : σ 16 = some (0, false)
  c24 : ∀ (x0 : (List (List Int))) (x1 : (List (List Int))) r, w_eqIntSS F x0 x1 = some r → D 24 [Enc.enc x0, Enc.enc x1] = some (Enc.enc (r : Bool))
  g24 : σ 24 = some (0, false)
abbrev R6 (r : Bool) : (Nat → V) → Prop := RR Try.prog [.tmp 4] 0 false (Enc.enc (r : Bool))
section
variable {D : Den} {σ : Sig} {F : Nat} {r : Bool}
def w_FnExactIsBramble_j1 (F : Nat) (aSets_2 : (List (List Int))) (aG_1 : (Int × (List (Int × Int)))) (r_8 : (Int × (List (Int × Int)))) (r_9 : (List (List Int)))  (t47_11 : Bool) : Option Bool :=
  bif t47_11 then
    some false
  else
    (w_toGraph F aG_1).bind fun r_12 =>
    (w_eqGraph F r_8 r_12).bind fun r_13 =>
    bif (!r_13) then
      some false
    else
      (w_toIntSS F aSets_2).bind fun r_14 =>
      (w_eqIntSS F r_9 r_14).bind fun r_15 =>
      bif (!r_15) then
        some false
      else
        some true
theorem t_f6_j1 (H : H6 D σ F) (aSets_2 : (List (List Int))) (aG_1 : (Int × (List (Int × Int)))) (r_8 : (Int × (List (Int × Int)))) (r_9 : (List (List Int)))  (t47_11 : Bool) (s : Nat → V) (hs : Facts [(1, (Enc.enc (aSets_2 : List (List Int)))), (2, (.ref (.bx 2) 0 [] (.agg [(.int .i64 aG_1.1), (Enc.enc (aG_1.2 : List (Int × Int)))]))), (4, (.bool false)), (8, (.ref (.bx 8) 0 [] (.agg [(.int .i64 r_8.1), (Enc.enc (r_8.2 : List (Int × Int)))]))), (9, (Enc.enc (r_9 : List (List Int)))), (47, (.bool t47_11))] s) (h : w_FnExactIsBramble_j1 F aSets_2 aG_1 r_8 r_9  t47_11 = some r) : Run D σ (R6 r) (.nrm [.sq A6_1, .sq A6_2]) s := by
  unfold w_FnExactIsBramble_j1 at h
  obtain ⟨h1, h2, h4, h8, h9, h47⟩ := hs
  refine .nsq ?_
  refine run_cond (t := t47_11) h47 h (fun h => ?_) (fun h => ?_)
  · refine .seq ?_
    refine run_reg ?_
    refine e_end ?_
    refine g_v0 (.bool false) rfl rfl ?_
    refine g_end ?_
    refine e_end ?_
    refine renew [(1, (Enc.enc (aSets_2 : List (List Int)))), (2, (.ref (.bx 2) 0 [] (.agg [(.int .i64 aG_1.1), (Enc.enc (aG_1.2 : List (Int × Int)))]))), (4, (.bool false)), (8, (.ref (.bx 8) 0 [] (.agg [(.int .i64 r_8.1), (Enc.enc (r_8.2 : List (Int × Int)))]))), (9, (Enc.enc (r_9 : List (List Int))))] ⟨h1, h2, rfl, h8, h9⟩ ?_
    rintro s ⟨h1, h2, h4, h8, h9⟩
    refine .nsq ?_
    refine .ret ?_
    have hr := Option.some.inj h
    subst hr
    exact rrA (res_tmp h4) rfl
  · refine .skip ?_
    refine .nsq ?_
    refine .seq ?_
    refine .seq ?_
    refine run_reg ?_
    refine e_end ?_
    refine g_v1 (t := 8) (u := (.ref (.bx 8) 0 [] (.agg [(.int .i64 r_8.1), (Enc.enc (r_8.2 : List (Int × Int)))]))) (.agg [(.int .i64 r_8.1), (Enc.enc (r_8.2 : List (Int × Int)))]) h8 rfl rfl ?_
    refine g_v1 (t := 2) (u := (.ref (.bx 2) 0 [] (.agg [(.int .i64 aG_1.1), (Enc.enc (aG_1.2 : List (Int × Int)))]))) (.agg [(.int .i64 aG_1.1), (Enc.enc (aG_1.2 : List (Int × Int)))]) h2 rfl rfl ?_
    obtain ⟨r_12, E_r_12, h⟩ := bind_some h
    refine g_call (m := 0) (al := true) (r := (Enc.enc (r_12 : (Int × (List (Int × Int)))))) [Enc.enc (aG_1 : (Int × (List (Int × Int))))] (ta_cons (v := (.agg [(.int .i64 aG_1.1), (Enc.enc (aG_1.2 : List (Int × Int)))])) rfl rfl (Enc.erase_enc (aG_1 : (Int × (List (Int × Int))))) ta_nil) (H.c13 _ _ E_r_12) H.g13 (hal_of (ht_cons (v := (.agg [(.int .i64 aG_1.1), (Enc.enc (aG_1.2 : List (Int × Int)))])) rfl rfl rfl ht_nil)) rfl rfl rfl ?_
    obtain ⟨r_13, E_r_13, h⟩ := bind_some h
    refine g_call (m := 0) (al := false) (r := (Enc.enc (r_13 : Bool))) [Enc.enc (r_8 : (Int × (List (Int × Int)))), Enc.enc (r_12 : (Int × (List (Int × Int))))] (ta_cons (v := (.agg [(.int .i64 r_8.1), (Enc.enc (r_8.2 : List (Int × Int)))])) rfl rfl (Enc.erase_enc (r_8 : (Int × (List (Int × Int))))) (ta_cons (v := (.agg [(.int .i64 r_12.1), (Enc.enc (r_12.2 : List (Int × Int)))])) rfl rfl (Enc.erase_enc (r_12 : (Int × (List (Int × Int))))) ta_nil)) (H.c16 _ _ _ E_r_13) H.g16 rfl rfl rfl rfl ?_
    refine g_v1 (t := 51) (u := (.bool r_13)) (.bool (!r_13)) rfl rfl rfl ?_
    refine g_end ?_
    refine e_end ?_
    refine renew [(1, (Enc.enc (aSets_2 : List (List Int)))), (4, (.bool false)), (9, (Enc.enc (r_9 : List (List Int)))), (52, (.bool (!r_13)))] ⟨h1, h4, h9, rfl⟩ ?_
    rintro s ⟨h1, h4, h9, h52⟩
    refine .nsq ?_
    refine run_cond (t := (!r_13)) h52 h (fun h => ?_) (fun h => ?_)
    · refine .seq ?_
      refine run_reg ?_
      refine e_end ?_
      refine g_v0 (.bool false) rfl rfl ?_
      refine g_end ?_
      refine e_end ?_
      refine renew [(1, (Enc.enc (aSets_2 : List (List Int)))), (4, (.bool false)), (9, (Enc.enc (r_9 : List (List Int))))] ⟨h1, rfl, h9⟩ ?_
      rintro s ⟨h1, h4, h9⟩
      refine .nsq ?_
      refine .ret ?_
      have hr := Option.some.inj h
      subst hr
      exact rrA (res_tmp h4) rfl
    · refine .skip ?_
      refine .nsq ?_
      refine .seq ?_
      refine .seq ?_
      refine run_reg ?_
      refine e_end ?_
      refine g_v1 (t := 9) (u := (Enc.enc (r_9 : List (List Int)))) (Enc.enc (r_9 : List (List Int))) h9 rfl rfl ?_
      refine g_v1 (t := 1) (u := (Enc.enc (aSets_2 : List (List Int)))) (Enc.enc (aSets_2 : List (List Int))) h1 rfl rfl ?_
      obtain ⟨r_14, E_r_14, h⟩ := bind_some h
      refine g_call (m := 0) (al := true) (r := (Enc.enc (r_14 : (List (List Int))))) [Enc.enc (aSets_2 : (List (List Int)))] (ta_cons (v := (Enc.enc (aSets_2 : List (List Int)))) rfl rfl (Enc.erase_enc (aSets_2 : (List (List Int)))) ta_nil) (H.c22 _ _ E_r_14) H.g22 (hal_of (ht_cons (v := (Enc.enc (aSets_2 : List (List Int)))) rfl rfl rfl ht_nil)) rfl rfl rfl ?_
      obtain ⟨r_15, E_r_15, h⟩ := bind_some h
      refine g_call (m := 0) (al := false) (r := (Enc.enc (r_15 : Bool))) [Enc.enc (r_9 : (List (List Int))), Enc.enc (r_14 : (List (List Int)))] (ta_cons (v := (Enc.enc (r_9 : List (List Int)))) rfl rfl (Enc.erase_enc (r_9 : (List (List Int)))) (ta_cons (v := (Enc.enc (r_14 : List (List Int)))) rfl rfl (Enc.erase_enc (r_14 : (List (List Int)))) ta_nil)) (H.c24 _ _ _ E_r_15) H.g24 rfl rfl rfl rfl ?_
      refine g_v1 (t := 56) (u := (.bool r_15)) (.bool (!r_15)) rfl rfl rfl ?_
      refine g_end ?_
      refine e_end ?_
      refine renew [(4, (.bool false)), (57, (.bool (!r_15)))] ⟨h4, rfl⟩ ?_
      rintro s ⟨h4, h57⟩
      refine .nsq ?_
      refine run_cond (t := (!r_15)) h57 h (fun h => ?_) (fun h => ?_)
      · refine .seq ?_
        refine run_reg ?_
        refine e_end ?_
        refine g_v0 (.bool false) rfl rfl ?_
        refine g_end ?_
        refine e_end ?_
        refine renew [(4, (.bool false))] rfl ?_
        rintro s h4
        refine .nsq ?_
        refine .ret ?_
        have hr := Option.some.inj h
        subst hr
        exact rrA (res_tmp h4) rfl
      · refine .skip ?_
        refine .nsq ?_
        refine .seq ?_
        refine run_reg ?_
        refine e_end ?_
        refine g_v0 (.bool true) rfl rfl ?_
        refine g_end ?_
        refine e_end ?_
        refine renew [(4, (.bool true))] rfl ?_
        rintro s h4
        refine .nsq ?_
        refine .ret ?_
        have hr := Option.some.inj h
        subst hr
        exact rrA (res_tmp h4) rfl
def w_FnExactIsBramble (F : Nat) (aG_1 : (Int × (List (Int × Int)))) (aSets_2 : (List (List Int))) : Option Bool :=
  (w_szGraph F aG_1 1048576).bind fun r_3 =>
  bif decide (r_3 < 0) then
    some true
  else
    (w_szIntSS F aSets_2 r_3).bind fun r_4 =>
    bif decide (r_4 < 0) then
      some true
    else
      (w_toGraph F aG_1).bind fun r_5 =>
      (w_toIntSS F aSets_2).bind fun r_6 =>
      (s_IsBramble F r_5 r_6).bind fun r_7 =>
      (w_toGraph F aG_1).bind fun r_8 =>
      (w_toIntSS F aSets_2).bind fun r_9 =>
      (i_IsBramble F r_8 r_9).bind fun r_10 =>
      bif (r_10.1 != r_7.1) then
        w_FnExactIsBramble_j1 F aSets_2 aG_1 r_8 r_9 true
      else
        w_FnExactIsBramble_j1 F aSets_2 aG_1 r_8 r_9 (r_10.2 != r_7.2)
theorem t6 (H : H6 D σ F) (aG_1 : (Int × (List (Int × Int)))) (aSets_2 : (List (List Int))) (s : Nat → V) (hs : Facts [(0, (.agg [(.int .i64 aG_1.1), (Enc.enc (aG_1.2 : List (Int × Int)))])), (1, (Enc.enc (aSets_2 : List (List Int))))] s) (h : w_FnExactIsBramble F aG_1 aSets_2 = some r) : Run D σ (R6 r) (.run A6 []) s := by
  unfold w_FnExactIsBramble at h
  obtain ⟨h0, h1⟩ := hs
  refine .seq ?_
  refine run_reg ?_
  refine e_clr ?_
  refine e_end ?_
  refine g_box (.agg [(.int .i64 aG_1.1), (Enc.enc (aG_1.2 : List (Int × Int)))]) (rd_of (keep_clear (s := s) (pk := [2]) h0 rfl (map_agg (maps_cons rfl (maps_cons (Enc.map_enc _ (aG_1.2 : List (Int × Int))) maps_nil)))) rfl) (gone_clear (s := s) (pk := [2]) (t := 2) rfl) rfl ?_
  refine g_v0 (.bool false) rfl rfl ?_
  refine g_end ?_
  refine e_end ?_
  refine renew [(1, (Enc.enc (aSets_2 : List (List Int)))), (2, (.ref (.bx 2) 0 [] (.agg [(.int .i64 aG_1.1), (Enc.enc (aG_1.2 : List (Int × Int)))]))), (4, (.bool false))] ⟨(keep_clear (s := s) (pk := [2]) h1 rfl (Enc.map_enc _ (aSets_2 : List (List Int)))), rfl, rfl⟩ ?_
  rintro s ⟨h1, h2, h4⟩
  refine .nsq ?_
  refine .seq ?_
  refine run_reg ?_
  refine e_end ?_
  refine g_v0 (.int .i64 1048576) rfl rfl ?_
  refine g_end ?_
  refine e_end ?_
  refine renew [(1, (Enc.enc (aSets_2 : List (List Int)))), (2, (.ref (.bx 2) 0 [] (.agg [(.int .i64 aG_1.1), (Enc.enc (aG_1.2 : List (Int × Int)))]))), (4, (.bool false)), (5, (.int .i64 1048576))] ⟨h1, h2, h4, rfl⟩ ?_
  rintro s ⟨h1, h2, h4, h5⟩
  refine .nsq ?_
  refine .seq ?_
  refine run_reg ?_
  refine e_end ?_
  refine g_v1 (t := 2) (u := (.ref (.bx 2) 0 [] (.agg [(.int .i64 aG_1.1), (Enc.enc (aG_1.2 : List (Int × Int)))]))) (.agg [(.int .i64 aG_1.1), (Enc.enc (aG_1.2 : List (Int × Int)))]) h2 rfl rfl ?_
  refine g_v1 (t := 5) (u := (.int .i64 1048576)) (.int .i64 1048576) h5 rfl rfl ?_
  obtain ⟨r_3, E_r_3, h⟩ := bind_some h
  refine g_call (m := 0) (al := false) (r := (Enc.enc (r_3 : Int))) [Enc.enc (aG_1 : (Int × (List (Int × Int)))), Enc.enc (1048576 : Int)] (ta_cons (v := (.agg [(.int .i64 aG_1.1), (Enc.enc (aG_1.2 : List (Int × Int)))])) rfl rfl (Enc.erase_enc (aG_1 : (Int × (List (Int × Int))))) (ta_cons (v := (.int .i64 1048576)) rfl rfl rfl ta_nil)) (H.c11 _ _ _ E_r_3) H.g11 rfl rfl rfl rfl ?_
  refine g_v1 (t := 14) (u := (.int .i64 r_3)) (.int .i64 r_3) rfl rfl rfl ?_
  refine g_end ?_
  refine e_end ?_
  refine renew [(1, (Enc.enc (aSets_2 : List (List Int)))), (2, (.ref (.bx 2) 0 [] (.agg [(.int .i64 aG_1.1), (Enc.enc (aG_1.2 : List (Int × Int)))]))), (4, (.bool false)), (5, (.int .i64 r_3))] ⟨h1, h2, h4, rfl⟩ ?_
  rintro s ⟨h1, h2, h4, h5⟩
  refine .nsq ?_
  refine .seq ?_
  refine .seq ?_
  refine run_reg ?_
  refine e_end ?_
  refine g_v1 (t := 5) (u := (.int .i64 r_3)) (.int .i64 r_3) h5 rfl rfl ?_
  refine g_v1 (t := 15) (u := (.int .i64 r_3)) (.bool (decide (r_3 < 0))) rfl rfl rfl ?_
  refine g_end ?_
  refine e_end ?_
  refine renew [(1, (Enc.enc (aSets_2 : List (List Int)))), (2, (.ref (.bx 2) 0 [] (.agg [(.int .i64 aG_1.1), (Enc.enc (aG_1.2 : List (Int × Int)))]))), (4, (.bool false)), (5, (.int .i64 r_3)), (16, (.bool (decide (r_3 < 0))))] ⟨h1, h2, h4, h5, rfl⟩ ?_
  rintro s ⟨h1, h2, h4, h5, h16⟩
  refine .nsq ?_
  refine run_cond (t := decide (r_3 < 0)) h16 h (fun h => ?_) (fun h => ?_)
  · refine .seq ?_
    refine run_reg ?_
    refine e_end ?_
    refine g_v0 (.bool true) rfl rfl ?_
    refine g_end ?_
    refine e_end ?_
    refine renew [(1, (Enc.enc (aSets_2 : List (List Int)))), (2, (.ref (.bx 2) 0 [] (.agg [(.int .i64 aG_1.1), (Enc.enc (aG_1.2 : List (Int × Int)))]))), (4, (.bool true)), (5, (.int .i64 r_3))] ⟨h1, h2, rfl, h5⟩ ?_
    rintro s ⟨h1, h2, h4, h5⟩
    refine .nsq ?_
    refine .ret ?_
    have hr := Option.some.inj h
    subst hr
    exact rrA (res_tmp h4) rfl
  · refine .skip ?_
    refine .nsq ?_
    refine .seq ?_
    refine run_reg ?_
    refine e_end ?_
    refine g_v1 (t := 1) (u := (Enc.enc (aSets_2 : List (List Int)))) (Enc.enc (aSets_2 : List (List Int))) h1 rfl rfl ?_
    refine g_v1 (t := 5) (u := (.int .i64 r_3)) (.int .i64 r_3) h5 rfl rfl ?_
    obtain ⟨r_4, E_r_4, h⟩ := bind_some h
    refine g_call (m := 0) (al := false) (r := (Enc.enc (r_4 : Int))) [Enc.enc (aSets_2 : (List (List Int))), Enc.enc (r_3 : Int)] (ta_cons (v := (Enc.enc (aSets_2 : List (List Int)))) rfl rfl (Enc.erase_enc (aSets_2 : (List (List Int)))) (ta_cons (v := (.int .i64 r_3)) rfl rfl rfl ta_nil)) (H.c20 _ _ _ E_r_4) H.g20 rfl rfl rfl rfl ?_
    refine g_v1 (t := 19) (u := (.int .i64 r_4)) (.int .i64 r_4) rfl rfl rfl ?_
    refine g_end ?_
    refine e_end ?_
    refine renew [(1, (Enc.enc (aSets_2 : List (List Int)))), (2, (.ref (.bx 2) 0 [] (.agg [(.int .i64 aG_1.1), (Enc.enc (aG_1.2 : List (Int × Int)))]))), (4, (.bool false)), (5, (.int .i64 r_4))] ⟨h1, h2, h4, rfl⟩ ?_
    rintro s ⟨h1, h2, h4, h5⟩
    refine .nsq ?_
    refine .seq ?_
    refine .seq ?_
    refine run_reg ?_
    refine e_end ?_
    refine g_v1 (t := 5) (u := (.int .i64 r_4)) (.int .i64 r_4) h5 rfl rfl ?_
    refine g_v1 (t := 20) (u := (.int .i64 r_4)) (.bool (decide (r_4 < 0))) rfl rfl rfl ?_
    refine g_end ?_
    refine e_end ?_
    refine renew [(1, (Enc.enc (aSets_2 : List (List Int)))), (2, (.ref (.bx 2) 0 [] (.agg [(.int .i64 aG_1.1), (Enc.enc (aG_1.2 : List (Int × Int)))]))), (4, (.bool false)), (21, (.bool (decide (r_4 < 0))))] ⟨h1, h2, h4, rfl⟩ ?_
    rintro s ⟨h1, h2, h4, h21⟩
    refine .nsq ?_
    refine run_cond (t := decide (r_4 < 0)) h21 h (fun h => ?_) (fun h => ?_)
    · refine .seq ?_
      refine run_reg ?_
      refine e_end ?_
      refine g_v0 (.bool true) rfl rfl ?_
      refine g_end ?_
      refine e_end ?_
      refine renew [(1, (Enc.enc (aSets_2 : List (List Int)))), (2, (.ref (.bx 2) 0 [] (.agg [(.int .i64 aG_1.1), (Enc.enc (aG_1.2 : List (Int × Int)))]))), (4, (.bool true))] ⟨h1, h2, rfl⟩ ?_
      rintro s ⟨h1, h2, h4⟩
      refine .nsq ?_
      refine .ret ?_
      have hr := Option.some.inj h
      subst hr
      exact rrA (res_tmp h4) rfl
    · refine .skip ?_
      refine .nsq ?_
      refine .seq ?_
      refine run_reg ?_
      refine e_end ?_
      refine g_v1 (t := 2) (u := (.ref (.bx 2) 0 [] (.agg [(.int .i64 aG_1.1), (Enc.enc (aG_1.2 : List (Int × Int)))]))) (.agg [(.int .i64 aG_1.1), (Enc.enc (aG_1.2 : List (Int × Int)))]) h2 rfl rfl ?_
      obtain ⟨r_5, E_r_5, h⟩ := bind_some h
      refine g_call (m := 0) (al := true) (r := (Enc.enc (r_5 : (Int × (List (Int × Int)))))) [Enc.enc (aG_1 : (Int × (List (Int × Int))))] (ta_cons (v := (.agg [(.int .i64 aG_1.1), (Enc.enc (aG_1.2 : List (Int × Int)))])) rfl rfl (Enc.erase_enc (aG_1 : (Int × (List (Int × Int))))) ta_nil) (H.c13 _ _ E_r_5) H.g13 (hal_of (ht_cons (v := (.agg [(.int .i64 aG_1.1), (Enc.enc (aG_1.2 : List (Int × Int)))])) rfl rfl rfl ht_nil)) rfl rfl rfl ?_
      refine g_v1 (t := 1) (u := (Enc.enc (aSets_2 : List (List Int)))) (Enc.enc (aSets_2 : List (List Int))) h1 rfl rfl ?_
      obtain ⟨r_6, E_r_6, h⟩ := bind_some h
      refine g_call (m := 0) (al := true) (r := (Enc.enc (r_6 : (List (List Int))))) [Enc.enc (aSets_2 : (List (List Int)))] (ta_cons (v := (Enc.enc (aSets_2 : List (List Int)))) rfl rfl (Enc.erase_enc (aSets_2 : (List (List Int)))) ta_nil) (H.c22 _ _ E_r_6) H.g22 (hal_of (ht_cons (v := (Enc.enc (aSets_2 : List (List Int)))) rfl rfl rfl ht_nil)) rfl rfl rfl ?_
      obtain ⟨r_7, E_r_7, h⟩ := bind_some h
      refine g_call (m := 0) (al := false) (r := (.tup [Enc.enc (r_7.1 : Bool), Enc.enc (r_7.2 : Bool)])) [Enc.enc (r_5 : (Int × (List (Int × Int)))), Enc.enc (r_6 : (List (List Int)))] (ta_cons (v := (.agg [(.int .i64 r_5.1), (Enc.enc (r_5.2 : List (Int × Int)))])) rfl rfl (Enc.erase_enc (r_5 : (Int × (List (Int × Int))))) (ta_cons (v := (Enc.enc (r_6 : List (List Int)))) rfl rfl (Enc.erase_enc (r_6 : (List (List Int)))) ta_nil)) (H.c25 _ _ _ E_r_7) H.g25 rfl rfl rfl rfl ?_
      refine g_v1 (t := 27) (u := (.tup [(.bool r_7.1), (.bool r_7.2)])) (.tup [(.bool r_7.1), (.bool r_7.2)]) rfl rfl rfl ?_
      refine g_v1 (t := 22) (u := (.tup [(.bool r_7.1), (.bool r_7.2)])) (.bool r_7.1) rfl rfl rfl ?_
      refine g_v1 (t := 22) (u := (.tup [(.bool r_7.1), (.bool r_7.2)])) (.bool r_7.2) rfl rfl rfl ?_
      refine g_v1 (t := 28) (u := (.bool r_7.1)) (.bool r_7.1) rfl rfl rfl ?_
      refine g_v1 (t := 29) (u := (.bool r_7.2)) (.bool r_7.2) rfl rfl rfl ?_
      refine g_end ?_
      refine e_end ?_
      refine renew [(1, (Enc.enc (aSets_2 : List (List Int)))), (2, (.ref (.bx 2) 0 [] (.agg [(.int .i64 aG_1.1), (Enc.enc (aG_1.2 : List (Int × Int)))]))), (4, (.bool false)), (6, (.bool r_7.1)), (7, (.bool r_7.2))] ⟨h1, h2, h4, rfl, rfl⟩ ?_
      rintro s ⟨h1, h2, h4, h6, h7⟩
      refine .nsq ?_
      refine .seq ?_
      refine run_reg ?_
      refine e_clr ?_
      refine e_end ?_
      refine g_v1 (t := 2) (u := (.ref (.bx 2) 0 [] (.agg [(.int .i64 aG_1.1), (Enc.enc (aG_1.2 : List (Int × Int)))]))) (.agg [(.int .i64 aG_1.1), (Enc.enc (aG_1.2 : List (Int × Int)))]) (keep_clear (s := s) (pk := [8]) h2 rfl (map_bx rfl (map_agg (maps_cons rfl (maps_cons (Enc.map_enc _ (aG_1.2 : List (Int × Int))) maps_nil))))) rfl rfl ?_
      obtain ⟨r_8, E_r_8, h⟩ := bind_some h
      refine g_call (m := 0) (al := true) (r := (Enc.enc (r_8 : (Int × (List (Int × Int)))))) [Enc.enc (aG_1 : (Int × (List (Int × Int))))] (ta_cons (v := (.agg [(.int .i64 aG_1.1), (Enc.enc (aG_1.2 : List (Int × Int)))])) rfl rfl (Enc.erase_enc (aG_1 : (Int × (List (Int × Int))))) ta_nil) (H.c13 _ _ E_r_8) H.g13 (hal_of (ht_cons (v := (.agg [(.int .i64 aG_1.1), (Enc.enc (aG_1.2 : List (Int × Int)))])) rfl rfl rfl ht_nil)) rfl rfl rfl ?_
      refine g_alloc (gone_clear (s := s) (pk := [8]) (t := 8) rfl) ?_
      refine g_store (.agg [(.int .i64 r_8.1), (Enc.enc (r_8.2 : List (Int × Int)))]) (rd_of rfl rfl) (rd_of rfl rfl) (by refine ⟨by decide, by decide, rfl, rfl, rfl, ?_⟩; first | rfl | simp [V.toks, V.tokss, Enc.toks_enc]) ?_
      refine g_end ?_
      refine e_end ?_
      refine renew [(1, (Enc.enc (aSets_2 : List (List Int)))), (2, (.ref (.bx 2) 0 [] (.agg [(.int .i64 aG_1.1), (Enc.enc (aG_1.2 : List (Int × Int)))]))), (4, (.bool false)), (6, (.bool r_7.1)), (7, (.bool r_7.2)), (8, (.ref (.bx 8) 0 [] (.agg [(.int .i64 r_8.1), (Enc.enc (r_8.2 : List (Int × Int)))])))] ⟨(keep_mut (keep_clear (s := s) (pk := [8]) h1 rfl (Enc.map_enc _ (aSets_2 : List (List Int)))) (Enc.mut_enc _ _ _ _ (aSets_2 : List (List Int)))), (keep_mut (keep_clear (s := s) (pk := [8]) h2 rfl (map_bx rfl (map_agg (maps_cons rfl (maps_cons (Enc.map_enc _ (aG_1.2 : List (Int × Int))) maps_nil))))) (mut_ref_ne rfl rfl (mut_agg (muts_cons rfl (muts_cons (Enc.mut_enc _ _ _ _ (aG_1.2 : List (Int × Int))) rfl))))), (keep_mut (keep_clear (s := s) (pk := [8]) h4 rfl rfl) rfl), (keep_mut (keep_clear (s := s) (pk := [8]) h6 rfl rfl) rfl), (keep_mut (keep_clear (s := s) (pk := [8]) h7 rfl rfl) rfl), (keep_mut rfl rfl)⟩ ?_
      rintro s ⟨h1, h2, h4, h6, h7, h8⟩
      refine .nsq ?_
      refine .seq ?_
      refine run_reg ?_
      refine e_end ?_
      refine g_v1 (t := 1) (u := (Enc.enc (aSets_2 : List (List Int)))) (Enc.enc (aSets_2 : List (List Int))) h1 rfl rfl ?_
      obtain ⟨r_9, E_r_9, h⟩ := bind_some h
      refine g_call (m := 0) (al := true) (r := (Enc.enc (r_9 : (List (List Int))))) [Enc.enc (aSets_2 : (List (List Int)))] (ta_cons (v := (Enc.enc (aSets_2 : List (List Int)))) rfl rfl (Enc.erase_enc (aSets_2 : (List (List Int)))) ta_nil) (H.c22 _ _ E_r_9) H.g22 (hal_of (ht_cons (v := (Enc.enc (aSets_2 : List (List Int)))) rfl rfl rfl ht_nil)) rfl rfl rfl ?_
      refine g_v1 (t := 33) (u := (Enc.enc (r_9 : List (List Int)))) (Enc.enc (r_9 : List (List Int))) rfl rfl rfl ?_
      refine g_end ?_
      refine e_end ?_
      refine renew [(1, (Enc.enc (aSets_2 : List (List Int)))), (2, (.ref (.bx 2) 0 [] (.agg [(.int .i64 aG_1.1), (Enc.enc (aG_1.2 : List (Int × Int)))]))), (4, (.bool false)), (6, (.bool r_7.1)), (7, (.bool r_7.2)), (8, (.ref (.bx 8) 0 [] (.agg [(.int .i64 r_8.1), (Enc.enc (r_8.2 : List (Int × Int)))]))), (9, (Enc.enc (r_9 : List (List Int))))] ⟨h1, h2, h4, h6, h7, h8, rfl⟩ ?_
      rintro s ⟨h1, h2, h4, h6, h7, h8, h9⟩
      refine .nsq ?_
      refine .seq ?_
      refine run_reg ?_
      refine e_end ?_
      refine g_v1 (t := 8) (u := (.ref (.bx 8) 0 [] (.agg [(.int .i64 r_8.1), (Enc.enc (r_8.2 : List (Int × Int)))]))) (.agg [(.int .i64 r_8.1), (Enc.enc (r_8.2 : List (Int × Int)))]) h8 rfl rfl ?_
      refine g_v1 (t := 9) (u := (Enc.enc (r_9 : List (List Int)))) (Enc.enc (r_9 : List (List Int))) h9 rfl rfl ?_
      obtain ⟨r_10, E_r_10, h⟩ := bind_some h
      refine g_call (m := 0) (al := false) (r := (.tup [Enc.enc (r_10.1 : Bool), Enc.enc (r_10.2 : Bool)])) [Enc.enc (r_8 : (Int × (List (Int × Int)))), Enc.enc (r_9 : (List (List Int)))] (ta_cons (v := (.agg [(.int .i64 r_8.1), (Enc.enc (r_8.2 : List (Int × Int)))])) rfl rfl (Enc.erase_enc (r_8 : (Int × (List (Int × Int))))) (ta_cons (v := (Enc.enc (r_9 : List (List Int)))) rfl rfl (Enc.erase_enc (r_9 : (List (List Int)))) ta_nil)) (H.c26 _ _ _ E_r_10) H.g26 rfl rfl rfl rfl ?_
      refine g_v1 (t := 37) (u := (.tup [(.bool r_10.1), (.bool r_10.2)])) (.tup [(.bool r_10.1), (.bool r_10.2)]) rfl rfl rfl ?_
      refine g_v1 (t := 34) (u := (.tup [(.bool r_10.1), (.bool r_10.2)])) (.bool r_10.1) rfl rfl rfl ?_
      refine g_v1 (t := 34) (u := (.tup [(.bool r_10.1), (.bool r_10.2)])) (.bool r_10.2) rfl rfl rfl ?_
      refine g_v1 (t := 38) (u := (.bool r_10.1)) (.bool r_10.1) rfl rfl rfl ?_
      refine g_v1 (t := 39) (u := (.bool r_10.2)) (.bool r_10.2) rfl rfl rfl ?_
      refine g_end ?_
      refine e_end ?_
      refine renew [(1, (Enc.enc (aSets_2 : List (List Int)))), (2, (.ref (.bx 2) 0 [] (.agg [(.int .i64 aG_1.1), (Enc.enc (aG_1.2 : List (Int × Int)))]))), (4, (.bool false)), (6, (.bool r_7.1)), (7, (.bool r_7.2)), (8, (.ref (.bx 8) 0 [] (.agg [(.int .i64 r_8.1), (Enc.enc (r_8.2 : List (Int × Int)))]))), (9, (Enc.enc (r_9 : List (List Int)))), (10, (.bool r_10.1)), (11, (.bool r_10.2))] ⟨h1, h2, h4, h6, h7, h8, h9, rfl, rfl⟩ ?_
      rintro s ⟨h1, h2, h4, h6, h7, h8, h9, h10, h11⟩
      refine .nsq ?_
      refine .seq ?_
      refine .seq ?_
      refine run_reg ?_
      refine e_end ?_
      refine g_v1 (t := 10) (u := (.bool r_10.1)) (.bool r_10.1) h10 rfl rfl ?_
      refine g_v1 (t := 6) (u := (.bool r_7.1)) (.bool r_7.1) h6 rfl rfl ?_
      refine g_v2 (t1 := 40) (t2 := 41) (u1 := (.bool r_10.1)) (u2 := (.bool r_7.1)) (.bool (r_10.1 != r_7.1)) rfl rfl rfl rfl ?_
      refine g_v1 (t := 42) (u := (.bool (r_10.1 != r_7.1))) (.bool (r_10.1 != r_7.1)) rfl rfl rfl ?_
      refine split_on (c := (r_10.1 != r_7.1)) h (fun hg4 h => ?_) (fun hg4 h => ?_)
      · refine g_no (Eq.trans (b := .bool (r_10.1 != r_7.1)) rfl (congrArg V.bool hg4)) ?_
        refine g_no (Eq.trans (b := .bool (r_10.1 != r_7.1)) rfl (congrArg V.bool hg4)) ?_
        refine g_no (Eq.trans (b := .bool (r_10.1 != r_7.1)) rfl (congrArg V.bool hg4)) ?_
        refine g_v2 (t1 := 43) (t2 := 46) (u1 := (.bool true)) (u2 := (.tup [])) (.bool true) (Eq.trans (b := .bool (r_10.1 != r_7.1)) rfl (congrArg V.bool hg4)) rfl rfl rfl ?_
        refine g_end ?_
        refine e_end ?_
        refine renew [(1, (Enc.enc (aSets_2 : List (List Int)))), (2, (.ref (.bx 2) 0 [] (.agg [(.int .i64 aG_1.1), (Enc.enc (aG_1.2 : List (Int × Int)))]))), (4, (.bool false)), (8, (.ref (.bx 8) 0 [] (.agg [(.int .i64 r_8.1), (Enc.enc (r_8.2 : List (Int × Int)))]))), (9, (Enc.enc (r_9 : List (List Int)))), (47, (.bool true))] ⟨h1, h2, h4, h8, h9, rfl⟩ ?_
        rintro s ⟨h1, h2, h4, h8, h9, h47⟩
        exact t_f6_j1 H aSets_2 aG_1 r_8 r_9 true _ ⟨h1, h2, h4, h8, h9, h47⟩ h
      · refine g_yes (Eq.trans (b := .bool (r_10.1 != r_7.1)) rfl (congrArg V.bool hg4)) (g_v1 (t := 11) (u := (.bool r_10.2)) (.bool r_10.2) h11 rfl rfl ?_)
        refine g_yes (Eq.trans (b := .bool (r_10.1 != r_7.1)) rfl (congrArg V.bool hg4)) (g_v1 (t := 7) (u := (.bool r_7.2)) (.bool r_7.2) h7 rfl rfl ?_)
        refine g_yes (Eq.trans (b := .bool (r_10.1 != r_7.1)) rfl (congrArg V.bool hg4)) (g_v2 (t1 := 44) (t2 := 45) (u1 := (.bool r_10.2)) (u2 := (.bool r_7.2)) (.bool (r_10.2 != r_7.2)) rfl rfl rfl rfl ?_)
        refine g_v2 (t1 := 43) (t2 := 46) (u1 := (.bool false)) (u2 := (.bool (r_10.2 != r_7.2))) (.bool (r_10.2 != r_7.2)) (Eq.trans (b := .bool (r_10.1 != r_7.1)) rfl (congrArg V.bool hg4)) rfl rfl rfl ?_
        refine g_end ?_
        refine e_end ?_
        refine renew [(1, (Enc.enc (aSets_2 : List (List Int)))), (2, (.ref (.bx 2) 0 [] (.agg [(.int .i64 aG_1.1), (Enc.enc (aG_1.2 : List (Int × Int)))]))), (4, (.bool false)), (8, (.ref (.bx 8) 0 [] (.agg [(.int .i64 r_8.1), (Enc.enc (r_8.2 : List (Int × Int)))]))), (9, (Enc.enc (r_9 : List (List Int)))), (47, (.bool (r_10.2 != r_7.2)))] ⟨h1, h2, h4, h8, h9, rfl⟩ ?_
        rintro s ⟨h1, h2, h4, h8, h9, h47⟩
        exact t_f6_j1 H aSets_2 aG_1 r_8 r_9 (r_10.2 != r_7.2) _ ⟨h1, h2, h4, h8, h9, h47⟩ h
end
def e6 (F : Nat) : Ent := ⟨6, da (fun (x : ((Int × (List (Int × Int))) × (List (List Int)) × Unit)) => w_FnExactIsBramble F x.1 x.2.1) (fun (r : Bool) => (Enc.enc (r : Bool))), 0, false, selF []⟩
theorem p6 {F : Nat} {x0 : (Int × (List (Int × Int)))} {x1 : (List (List Int))} {r : Bool} (h : w_FnExactIsBramble F x0 x1 = some r) : (e6 F).den [Enc.enc x0, Enc.enc x1] = some (Enc.enc (r : Bool)) := da_put (f := fun (x : ((Int × (List (Int × Int))) × (List (List Int)) × Unit)) => w_FnExactIsBramble F x.1 x.2.1) (t := fun (r : Bool) => (Enc.enc (r : Bool))) (x0, x1, ()) h
theorem o6 {D : Den} {σ : Sig} {F : Nat} (hF : Fits2 Try.prog D σ) (H : H6 D σ F) : (e6 F).Ok Try.prog := by
  refine ⟨fun args r h => ?_, ⟨Try.f6, Try.func6, rfl, rfl⟩⟩
  obtain ⟨⟨x0, x1, _⟩, y, rfl, hy, rfl⟩ := da_open h
  exact contract_run hF (by kernel_rfl) Try.func6 rfl c6 (show 2 ≤ Try.f6.ntmps by decide) (t6 H x0 x1 _ ⟨rfl, rfl⟩ hy)
end Go.Zq
