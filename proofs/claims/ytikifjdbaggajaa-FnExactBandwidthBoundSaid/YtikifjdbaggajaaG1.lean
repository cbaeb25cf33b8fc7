/- Functions of the program as typed functions, and that the machine runs as they say (part 1). No further condition. -/
import Derived.Test.YtikifjdbaggajaaK2
import Derived.Test.YtikifjdbaggajaaProg
import Derived.Test.YtikifjdbaggajaaChecked
import Derived.KernelRfl
set_option linter.unusedVariables false
set_option linter.unusedSimpArgs false
/- Functions of the program, as typed functions, and that the machine runs as they say. -/
namespace Go.Zq
open Go.Proofs
/- loop.example/g01109/laws.szIntA2S -/
def A29_3 : AC := (AC.cond (O.t 10) (AC.seq (AC.reg [] [(I.mk (some 4) none false (X.v (A.mov (O.k (V.int IntKind.i64 (Int.negSucc 0))))))] []) AC.ret) AC.skip)
def A29_4 : AC := (AC.seq (AC.reg [] [(I.mk (some 11) none false (X.v (A.mov (O.t 1)))), (I.mk (some 4) none false (X.v (A.mov (O.t 11))))] []) AC.ret)
def A29_2 : AC := (AC.seq (AC.seq (AC.reg [] [(I.mk (some 9) none false (X.v (A.mov (O.t 1)))), (I.mk (some 10) none false (X.v (A.bin BinOp.lss (O.t 9) (O.k (V.int IntKind.i64 (Int.ofNat 0))))))] []) A29_3) A29_4)
def A29_1 : AC := (AC.seq (AC.reg [] [(I.mk (some 5) none false (X.v (A.mov (O.t 1)))), (I.mk (some 6) none false (X.v (A.mov (O.t 0)))), (I.mk (some 7) none false (X.v (A.len (O.t 6)))), (I.mk (some 8) none false (X.v (A.bin BinOp.sub (O.t 5) (O.t 7)))), (I.mk (some 1) none false (X.v (A.mov (O.t 8))))] []) A29_2)
def A29 : AC := (AC.seq (AC.reg [] [(I.mk (some 4) none false (X.v (A.mov (O.k (V.int IntKind.i64 (Int.ofNat 0))))))] []) A29_1)
def an29 : List An := []
theorem c29 : cC Try.prog Try.f29.ntmps an29 (Try.f29.body.getD .skip) = some A29 := by kernel_rfl
structure H29 (D : Den) (σ : Sig) (F : Nat) : Prop where
  mk ::
abbrev R29 (r : Int) : (Nat → V) → Prop := RR Try.prog [.tmp 4] 0 false (Enc.enc (r : Int))
section
variable {D : Den} {σ : Sig} {F : Nat} {r : Int}
def w_szIntA2S (F : Nat) (a_1 : (List (Int × Int))) (left_2 : Int) : Option Int :=
  bif decide ((w64 (left_2 - (a_1.length : Int))) < 0) then
    some (-1)
  else
    some (w64 (left_2 - (a_1.length : Int)))
theorem t29 (H : H29 D σ F) (a_1 : (List (Int × Int))) (left_2 : Int) (s : Nat → V) (hs : Facts [(0, (Enc.enc (a_1 : List (Int × Int)))), (1, (.int .i64 left_2))] s) (h : w_szIntA2S F a_1 left_2 = some r) : Run D σ (R29 r) (.run A29 []) s := by
  unfold w_szIntA2S at h
  obtain ⟨h0, h1⟩ := hs
  refine .seq ?_
  refine run_reg ?_
  refine e_end ?_
  refine g_v0 (.int .i64 0) rfl rfl ?_
  refine g_end ?_
  refine e_end ?_
  refine renew [(0, (Enc.enc (a_1 : List (Int × Int)))), (1, (.int .i64 left_2)), (4, (.int .i64 0))] ⟨h0, h1, rfl⟩ ?_
  rintro s ⟨h0, h1, h4⟩
  refine .nsq ?_
  refine .seq ?_
  refine run_reg ?_
  refine e_end ?_
  refine g_v1 (t := 1) (u := (.int .i64 left_2)) (.int .i64 left_2) h1 rfl rfl ?_
  refine g_v1 (t := 0) (u := (Enc.enc (a_1 : List (Int × Int)))) (Enc.enc (a_1 : List (Int × Int))) h0 rfl rfl ?_
  refine g_v (.int .i64 (a_1.length : Int)) (ev_len (xs := a_1) rfl) ?_
  refine g_v2 (t1 := 5) (t2 := 7) (u1 := (.int .i64 left_2)) (u2 := (.int .i64 (a_1.length : Int))) (.int .i64 (w64 (left_2 - (a_1.length : Int)))) rfl rfl rfl rfl ?_
  refine g_v1 (t := 8) (u := (.int .i64 (w64 (left_2 - (a_1.length : Int))))) (.int .i64 (w64 (left_2 - (a_1.length : Int)))) rfl rfl rfl ?_
  refine g_end ?_
  refine e_end ?_
  refine renew [(1, (.int .i64 (w64 (left_2 - (a_1.length : Int))))), (4, (.int .i64 0))] ⟨rfl, h4⟩ ?_
  rintro s ⟨h1, h4⟩
  refine .nsq ?_
  refine .seq ?_
  refine .seq ?_
  refine run_reg ?_
  refine e_end ?_
  refine g_v1 (t := 1) (u := (.int .i64 (w64 (left_2 - (a_1.length : Int))))) (.int .i64 (w64 (left_2 - (a_1.length : Int)))) h1 rfl rfl ?_
  refine g_v1 (t := 9) (u := (.int .i64 (w64 (left_2 - (a_1.length : Int))))) (.bool (decide ((w64 (left_2 - (a_1.length : Int))) < 0))) rfl rfl rfl ?_
  refine g_end ?_
  refine e_end ?_
  refine renew [(1, (.int .i64 (w64 (left_2 - (a_1.length : Int))))), (4, (.int .i64 0)), (10, (.bool (decide ((w64 (left_2 - (a_1.length : Int))) < 0))))] ⟨h1, h4, rfl⟩ ?_
  rintro s ⟨h1, h4, h10⟩
  refine .nsq ?_
  refine run_cond (t := decide ((w64 (left_2 - (a_1.length : Int))) < 0)) h10 h (fun h => ?_) (fun h => ?_)
  · refine .seq ?_
    refine run_reg ?_
    refine e_end ?_
    refine g_v0 (.int .i64 (-1)) rfl rfl ?_
    refine g_end ?_
    refine e_end ?_
    refine renew [(1, (.int .i64 (w64 (left_2 - (a_1.length : Int))))), (4, (.int .i64 (-1)))] ⟨h1, rfl⟩ ?_
    rintro s ⟨h1, h4⟩
    refine .nsq ?_
    refine .ret ?_
    have hr := Option.some.inj h
    subst hr
    exact rrA (res_tmp h4) rfl
  · refine .skip ?_
    refine .nsq ?_
    refine .seq ?_
    refine run_reg ?_
    refine e_end ?_
    refine g_v1 (t := 1) (u := (.int .i64 (w64 (left_2 - (a_1.length : Int))))) (.int .i64 (w64 (left_2 - (a_1.length : Int)))) h1 rfl rfl ?_
    refine g_v1 (t := 11) (u := (.int .i64 (w64 (left_2 - (a_1.length : Int))))) (.int .i64 (w64 (left_2 - (a_1.length : Int)))) rfl rfl rfl ?_
    refine g_end ?_
    refine e_end ?_
    refine renew [(4, (.int .i64 (w64 (left_2 - (a_1.length : Int)))))] rfl ?_
    rintro s h4
    refine .nsq ?_
    refine .ret ?_
    have hr := Option.some.inj h
    subst hr
    exact rrA (res_tmp h4) rfl
end
def e29 (F : Nat) : Ent := ⟨29, dn2 (w_szIntA2S F) (fun (r : Int) => (Enc.enc (r : Int))), 0, false⟩
theorem o29 {D : Den} {σ : Sig} {F : Nat} (hF : Fits2 Try.prog D σ) (H : H29 D σ F) : (e29 F).Ok Try.prog := by
  refine ⟨fun args r h => ?_, ⟨Try.f29, Try.func29, rfl, rfl⟩⟩
  obtain ⟨x0, x1, y, rfl, hy, rfl⟩ := dn2_open h
  exact contract_run hF (by kernel_rfl) Try.func29 rfl c29 (show 2 ≤ Try.f29.ntmps by decide) (t29 H x0 x1 _ ⟨rfl, rfl⟩ hy)
/- loop.example/g01109/laws.szGraph -/
def A9_3 : AC := (AC.cond (O.t 10) (AC.seq (AC.reg [] [(I.mk (some 4) none false (X.v (A.mov (O.k (V.int IntKind.i64 (Int.negSucc 0))))))] []) AC.ret) AC.skip)
def A9_4 : AC := (AC.seq (AC.reg [] [(I.mk (some 11) none false (X.v (A.mov (O.t 1)))), (I.mk (some 4) none false (X.v (A.mov (O.t 11))))] []) AC.ret)
def A9_2 : AC := (AC.seq (AC.seq (AC.reg [] [(I.mk (some 9) none false (X.v (A.mov (O.t 1)))), (I.mk (some 10) none false (X.v (A.bin BinOp.lss (O.t 9) (O.k (V.int IntKind.i64 (Int.ofNat 0))))))] []) A9_3) A9_4)
def A9_1 : AC := (AC.seq (AC.reg [] [(I.mk (some 5) none false (X.v (A.fld (O.t 2) 1 1))), (I.mk (some 6) none false (X.v (A.load Sh.p (O.t 5)))), (I.mk (some 7) none false (X.v (A.mov (O.t 1)))), (I.mk (some 8) none false (X.call (O.k (V.fn 29 [] [])) [(O.t 6), (O.t 7)])), (I.mk (some 1) none false (X.v (A.mov (O.t 8))))] []) A9_2)
def A9 : AC := (AC.seq (AC.reg [.clr [2]] [(I.mk (some 2) none false (X.box (O.t 0))), (I.mk (some 4) none false (X.v (A.mov (O.k (V.int IntKind.i64 (Int.ofNat 0))))))] []) A9_1)
def an9 : List An := [{ id := 0, pre := [.clr [2]], ep := [] }]
theorem c9 : cC Try.prog Try.f9.ntmps an9 (Try.f9.body.getD .skip) = some A9 := by kernel_rfl
structure H9 (D : Den) (σ : Sig) (F : Nat) : Prop where
  c29 : ∀ x0 x1 r, w_szIntA2S F x0 x1 = some r → D 29 [Enc.enc x0, Enc.enc x1] = some (Enc.enc (r : Int))
  g29 : σ 29 = some (0, false)
abbrev R9 (r : Int) : (Nat → V) → Prop := RR Try.prog [.tmp 4] 0 false (Enc.enc (r : Int))
section
variable {D : Den} {σ : Sig} {F : Nat} {r : Int}
def w_szGraph (F : Nat) (a_1 : (Int × (List (Int × Int)))) (left_2 : Int) : Option Int :=
  (w_szIntA2S F a_1.2 left_2).bind fun r_3 =>
  bif decide (r_3 < 0) then
    some (-1)
  else
    some r_3
theorem t9 (H : H9 D σ F) (a_1 : (Int × (List (Int × Int)))) (left_2 : Int) (s : Nat → V) (hs : Facts [(0, (.agg [(.int .i64 a_1.1), (Enc.enc (a_1.2 : List (Int × Int)))])), (1, (.int .i64 left_2))] s) (h : w_szGraph F a_1 left_2 = some r) : Run D σ (R9 r) (.run A9 []) s := by
  unfold w_szGraph at h
  obtain ⟨h0, h1⟩ := hs
  refine .seq ?_
  refine run_reg ?_
  refine e_clr ?_
  refine e_end ?_
  refine g_box (.agg [(.int .i64 a_1.1), (Enc.enc (a_1.2 : List (Int × Int)))]) (rd_of (keep_clear (s := s) (pk := [2]) h0 rfl (map_agg (maps_cons rfl (maps_cons (Enc.map_enc _ (a_1.2 : List (Int × Int))) maps_nil)))) rfl) (gone_clear (s := s) (pk := [2]) (t := 2) rfl) rfl ?_
  refine g_v0 (.int .i64 0) rfl rfl ?_
  refine g_end ?_
  refine e_end ?_
  refine renew [(1, (.int .i64 left_2)), (2, (.ref (.bx 2) 0 [] (.agg [(.int .i64 a_1.1), (Enc.enc (a_1.2 : List (Int × Int)))]))), (4, (.int .i64 0))] ⟨(keep_clear (s := s) (pk := [2]) h1 rfl rfl), rfl, rfl⟩ ?_
  rintro s ⟨h1, h2, h4⟩
  refine .nsq ?_
  refine .seq ?_
  refine run_reg ?_
  refine e_end ?_
  refine g_v1 (t := 2) (u := (.ref (.bx 2) 0 [] (.agg [(.int .i64 a_1.1), (Enc.enc (a_1.2 : List (Int × Int)))]))) (.ref (.bx 2) 0 [1] (Enc.enc (a_1.2 : List (Int × Int)))) h2 rfl rfl ?_
  refine g_v1 (t := 5) (u := (.ref (.bx 2) 0 [1] (Enc.enc (a_1.2 : List (Int × Int))))) (Enc.enc (a_1.2 : List (Int × Int))) rfl rfl rfl ?_
  refine g_v1 (t := 1) (u := (.int .i64 left_2)) (.int .i64 left_2) h1 rfl rfl ?_
  obtain ⟨r_3, E_r_3, h⟩ := bind_some h
  refine g_call (m := 0) (al := false) (r := (Enc.enc (r_3 : Int))) [Enc.enc (a_1.2 : (List (Int × Int))), Enc.enc (left_2 : Int)] (ta_cons (v := (Enc.enc (a_1.2 : List (Int × Int)))) rfl rfl (Enc.erase_enc (a_1.2 : (List (Int × Int)))) (ta_cons (v := (.int .i64 left_2)) rfl rfl rfl ta_nil)) (H.c29 _ _ _ E_r_3) H.g29 rfl rfl rfl rfl ?_
  refine g_v1 (t := 8) (u := (.int .i64 r_3)) (.int .i64 r_3) rfl rfl rfl ?_
  refine g_end ?_
  refine e_end ?_
  refine renew [(1, (.int .i64 r_3)), (4, (.int .i64 0))] ⟨rfl, h4⟩ ?_
  rintro s ⟨h1, h4⟩
  refine .nsq ?_
  refine .seq ?_
  refine .seq ?_
  refine run_reg ?_
  refine e_end ?_
  refine g_v1 (t := 1) (u := (.int .i64 r_3)) (.int .i64 r_3) h1 rfl rfl ?_
  refine g_v1 (t := 9) (u := (.int .i64 r_3)) (.bool (decide (r_3 < 0))) rfl rfl rfl ?_
  refine g_end ?_
  refine e_end ?_
  refine renew [(1, (.int .i64 r_3)), (4, (.int .i64 0)), (10, (.bool (decide (r_3 < 0))))] ⟨h1, h4, rfl⟩ ?_
  rintro s ⟨h1, h4, h10⟩
  refine .nsq ?_
  refine run_cond (t := decide (r_3 < 0)) h10 h (fun h => ?_) (fun h => ?_)
  · refine .seq ?_
    refine run_reg ?_
    refine e_end ?_
    refine g_v0 (.int .i64 (-1)) rfl rfl ?_
    refine g_end ?_
    refine e_end ?_
    refine renew [(1, (.int .i64 r_3)), (4, (.int .i64 (-1)))] ⟨h1, rfl⟩ ?_
    rintro s ⟨h1, h4⟩
    refine .nsq ?_
    refine .ret ?_
    have hr := Option.some.inj h
    subst hr
    exact rrA (res_tmp h4) rfl
  · refine .skip ?_
    refine .nsq ?_
    refine .seq ?_
    refine run_reg ?_
    refine e_end ?_
    refine g_v1 (t := 1) (u := (.int .i64 r_3)) (.int .i64 r_3) h1 rfl rfl ?_
    refine g_v1 (t := 11) (u := (.int .i64 r_3)) (.int .i64 r_3) rfl rfl rfl ?_
    refine g_end ?_
    refine e_end ?_
    refine renew [(4, (.int .i64 r_3))] rfl ?_
    rintro s h4
    refine .nsq ?_
    refine .ret ?_
    have hr := Option.some.inj h
    subst hr
    exact rrA (res_tmp h4) rfl
end
def e9 (F : Nat) : Ent := ⟨9, dn2 (w_szGraph F) (fun (r : Int) => (Enc.enc (r : Int))), 0, false⟩
theorem o9 {D : Den} {σ : Sig} {F : Nat} (hF : Fits2 Try.prog D σ) (H : H9 D σ F) : (e9 F).Ok Try.prog := by
  refine ⟨fun args r h => ?_, ⟨Try.f9, Try.func9, rfl, rfl⟩⟩
  obtain ⟨x0, x1, y, rfl, hy, rfl⟩ := dn2_open h
  exact contract_run hF (by kernel_rfl) Try.func9 rfl c9 (show 2 ≤ Try.f9.ntmps by decide) (t9 H x0 x1 _ ⟨rfl, rfl⟩ hy)
/- loop.example/g01109/laws.toIntA2 -/
def A59_2 : AC := (AC.cond (O.t 6) AC.skip (AC.exit 0))
def A59_4 : AC := (AC.reg [] [(I.mk (some 7) none false (X.v (A.mov (O.t 4)))), (I.mk (some 8) none false (X.v (A.bin BinOp.add (O.t 7) (O.k (V.int IntKind.i64 (Int.ofNat 1)))))), (I.mk (some 4) none false (X.v (A.mov (O.t 8))))] [])
def A59_3 : AC := (AC.seq (AC.block 1 (AC.reg [] [(I.mk (some 9) none false (X.v (A.mov (O.t 4)))), (I.mk (some 10) none false (X.v (A.mov (O.t 4)))), (I.mk (some 11) none false (X.v (A.idxA (O.t 1) (O.t 10) 2 1))), (I.mk (some 12) none false (X.v (A.load Sh.s (O.t 11)))), (I.mk (some 13) none false (X.v (A.idxA (O.t 3) (O.t 9) 2 1))), (I.mk none none false (X.store Sh.s (O.t 13) (O.t 12)))] [])) A59_4)
def A59_1 : AC := (AC.seq (AC.seq (AC.reg [] [(I.mk (some 5) none false (X.v (A.mov (O.t 4)))), (I.mk (some 6) none false (X.v (A.bin BinOp.lss (O.t 5) (O.k (V.int IntKind.i64 (Int.ofNat 2))))))] []) A59_2) A59_3)
def A59_5 : AC := (AC.seq (AC.reg [] [(I.mk (some 14) none false (X.v (A.load (Sh.ag [Sh.s, Sh.s]) (O.t 3)))), (I.mk none none false (X.store (Sh.ag [Sh.s, Sh.s]) (O.t 2) (O.t 14)))] []) AC.ret)
def A59_8 : AC := (AC.block 0 (AC.loop A59_1))
def A59_7 : AC := (AC.seq (AC.seq (AC.reg [] [(I.mk (some 4) none false (X.v (A.mov (O.k (V.int IntKind.i64 (Int.ofNat 0))))))] []) A59_8) A59_5)
def A59_6 : AC := (AC.seq (AC.reg [.clr [3]] [(I.mk (some 3) none false (X.alloc (V.agg [(V.int IntKind.i64 (Int.ofNat 0)), (V.int IntKind.i64 (Int.ofNat 0))])))] []) A59_7)
def A59 : AC := (AC.seq (AC.reg [.clr [1, 2]] [(I.mk (some 1) none false (X.box (O.t 0))), (I.mk (some 2) none false (X.alloc (V.agg [(V.int IntKind.i64 (Int.ofNat 0)), (V.int IntKind.i64 (Int.ofNat 0))])))] []) A59_6)
def an59 : List An := [{ id := 0, pre := [.clr [1, 2]], ep := [] }, { id := 1, pre := [.clr [3]], ep := [] }]
theorem c59 : cC Try.prog Try.f59.ntmps an59 (Try.f59.body.getD .skip) = some A59 := by kernel_rfl
structure H59 (D : Den) (σ : Sig) (F : Nat) : Prop where
  mk ::
abbrev R59 (r : (Int × Int)) : (Nat → V) → Prop := RR Try.prog [.cell 2 50] 0 true (Enc.enc (r : (Int × Int)))
section
variable {D : Den} {σ : Sig} {F : Nat} {r : (Int × Int)}
def w_toIntA2_l1 (F : Nat) (a_1 : (Int × Int))  : Nat → Int → Int → Int → Option (Int × Int)
  | 0, _, _, _ => none
  | k + 1, out_2, i_3, out_6 =>
    bif decide (i_3 < 2) then
      (idx [a_1.1, a_1.2] i_3).bind fun e_9 =>
      (idx [out_2, out_6] i_3).bind fun e_10 =>
      (w_toIntA2_l1 F a_1 k) (bif i_3 == 0 then e_9 else out_2) (w64 (i_3 + 1)) (bif i_3 == 1 then e_9 else out_6)
    else
      some (out_2, out_6)
theorem t_f59_l1 (H : H59 D σ F) (a_1 : (Int × Int))  : ∀ (k : Nat) (out_2 : Int) (i_3 : Int) (out_6 : Int) (s : Nat → V), Facts [(1, (.ref (.bx 1) 0 [] (.agg [(.int .i64 a_1.1), (.int .i64 a_1.2)]))), (2, (.ref (.bx 2) 0 [] (.agg [(.int .i64 0), (.int .i64 0)]))), (3, (.ref (.bx 3) 0 [] (.agg [(.int .i64 out_2), (.int .i64 out_6)]))), (4, (.int .i64 i_3))] s → w_toIntA2_l1 F a_1 k out_2 i_3 out_6 = some r → Run D σ (R59 r) (.run A59_1 [.lp A59_1, .bk 0, .sq A59_5]) s := by
  intro k
  induction k with
  | zero => intro out_2 i_3 out_6 s _ h; exact nomatch (h : (none : Option _) = some r)
  | succ k ih =>
    intro out_2 i_3 out_6 s hs h
    rw [w_toIntA2_l1] at h
    obtain ⟨h1, h2, h3, h4⟩ := hs
    refine .seq ?_
    refine .seq ?_
    refine run_reg ?_
    refine e_end ?_
    refine g_v1 (t := 4) (u := (.int .i64 i_3)) (.int .i64 i_3) h4 rfl rfl ?_
    refine g_v1 (t := 5) (u := (.int .i64 i_3)) (.bool (decide (i_3 < 2))) rfl rfl rfl ?_
    refine g_end ?_
    refine e_end ?_
    refine renew [(1, (.ref (.bx 1) 0 [] (.agg [(.int .i64 a_1.1), (.int .i64 a_1.2)]))), (2, (.ref (.bx 2) 0 [] (.agg [(.int .i64 0), (.int .i64 0)]))), (3, (.ref (.bx 3) 0 [] (.agg [(.int .i64 out_2), (.int .i64 out_6)]))), (4, (.int .i64 i_3)), (6, (.bool (decide (i_3 < 2))))] ⟨h1, h2, h3, h4, rfl⟩ ?_
    rintro s ⟨h1, h2, h3, h4, h6⟩
    refine .nsq ?_
    refine run_cond (t := decide (i_3 < 2)) h6 h (fun h => ?_) (fun h => ?_)
    · refine .skip ?_
      refine .nsq ?_
      refine .seq ?_
      refine .block ?_
      refine run_reg ?_
      refine e_end ?_
      refine g_v1 (t := 4) (u := (.int .i64 i_3)) (.int .i64 i_3) h4 rfl rfl ?_
      refine g_v1 (t := 4) (u := (.int .i64 i_3)) (.int .i64 i_3) h4 rfl rfl ?_
      obtain ⟨e_9, E_e_9, h⟩ := bind_some h
      refine g_v (.ref (.bx 1) 0 [i_3.toNat] (.int .i64 e_9)) (ev_idxA (xs := [a_1.1, a_1.2]) (a := e_9) (n := i_3) (q := []) h1 rfl E_e_9 rfl rfl rfl) ?_
      refine g_v1 (t := 11) (u := (.ref (.bx 1) 0 [i_3.toNat] (.int .i64 e_9))) (.int .i64 e_9) rfl rfl rfl ?_
      obtain ⟨e_10, E_e_10, h⟩ := bind_some h
      refine g_v (.ref (.bx 3) 0 [i_3.toNat] (.int .i64 e_10)) (ev_idxA (xs := [out_2, out_6]) (a := e_10) (n := i_3) (q := []) h3 rfl E_e_10 rfl rfl rfl) ?_
      refine g_store (.int .i64 e_9) (rd_of rfl rfl) (rd_of rfl rfl) (by refine ⟨by decide, by decide, rfl, rfl, rfl, ?_⟩; first | rfl | simp [V.toks, V.tokss, Enc.toks_enc]) ?_
      refine g_end ?_
      refine e_end ?_
      refine renew [(1, (.ref (.bx 1) 0 [] (.agg [(.int .i64 a_1.1), (.int .i64 a_1.2)]))), (2, (.ref (.bx 2) 0 [] (.agg [(.int .i64 0), (.int .i64 0)]))), (3, (.ref (.bx 3) 0 [] (.agg [(.int .i64 (bif i_3 == 0 then e_9 else out_2)), (.int .i64 (bif i_3 == 1 then e_9 else out_6))]))), (4, (.int .i64 i_3))] ⟨(keep_mut h1 rfl), (keep_mut h2 rfl), (keep_mut h3 (mut_ix2 E_e_10 rfl)), (keep_mut h4 rfl)⟩ ?_
      rintro s ⟨h1, h2, h3, h4⟩
      refine .nbk ?_
      refine .nsq ?_
      refine run_reg ?_
      refine e_end ?_
      refine g_v1 (t := 4) (u := (.int .i64 i_3)) (.int .i64 i_3) h4 rfl rfl ?_
      refine g_v1 (t := 7) (u := (.int .i64 i_3)) (.int .i64 (w64 (i_3 + 1))) rfl rfl rfl ?_
      refine g_v1 (t := 8) (u := (.int .i64 (w64 (i_3 + 1)))) (.int .i64 (w64 (i_3 + 1))) rfl rfl rfl ?_
      refine g_end ?_
      refine e_end ?_
      refine renew [(1, (.ref (.bx 1) 0 [] (.agg [(.int .i64 a_1.1), (.int .i64 a_1.2)]))), (2, (.ref (.bx 2) 0 [] (.agg [(.int .i64 0), (.int .i64 0)]))), (3, (.ref (.bx 3) 0 [] (.agg [(.int .i64 (bif i_3 == 0 then e_9 else out_2)), (.int .i64 (bif i_3 == 1 then e_9 else out_6))]))), (4, (.int .i64 (w64 (i_3 + 1))))] ⟨h1, h2, h3, rfl⟩ ?_
      rintro s ⟨h1, h2, h3, h4⟩
      refine .nlp ?_
      exact ih (bif i_3 == 0 then e_9 else out_2) (w64 (i_3 + 1)) (bif i_3 == 1 then e_9 else out_6) _ ⟨h1, h2, h3, h4⟩ h
    · refine .exit ?_
      refine .esq ?_
      refine .elp ?_
      refine .ebk ?_
      refine .nsq ?_
      refine .seq ?_
      refine run_reg ?_
      refine e_end ?_
      refine g_v1 (t := 3) (u := (.ref (.bx 3) 0 [] (.agg [(.int .i64 out_2), (.int .i64 out_6)]))) (.agg [(.int .i64 out_2), (.int .i64 out_6)]) h3 rfl rfl ?_
      refine g_store (.agg [(.int .i64 out_2), (.int .i64 out_6)]) (rd_of h2 rfl) (rd_of rfl rfl) (by refine ⟨by decide, by decide, rfl, rfl, rfl, ?_⟩; first | rfl | simp [V.toks, V.tokss, Enc.toks_enc]) ?_
      refine g_end ?_
      refine e_end ?_
      refine renew [(2, (.ref (.bx 2) 0 [] (.agg [(.int .i64 out_2), (.int .i64 out_6)])))] (keep_mut h2 rfl) ?_
      rintro s h2
      refine .nsq ?_
      refine .ret ?_
      have hr := Option.some.inj h
      subst hr
      exact rrA (res_cell h2 rfl) (fin_ret1 (fin_enc (x := ((out_2, out_6) : (Int × Int)))))
def w_toIntA2 (F : Nat) (a_1 : (Int × Int)) : Option (Int × Int) :=
  w_toIntA2_l1 F a_1 F 0 0 0
theorem t59 (H : H59 D σ F) (a_1 : (Int × Int)) (s : Nat → V) (hs : Facts [(0, (.agg [(.int .i64 a_1.1), (.int .i64 a_1.2)]))] s) (h : w_toIntA2 F a_1 = some r) : Run D σ (R59 r) (.run A59 []) s := by
  unfold w_toIntA2 at h
  have h0 := hs
  refine .seq ?_
  refine run_reg ?_
  refine e_clr ?_
  refine e_end ?_
  refine g_box (.agg [(.int .i64 a_1.1), (.int .i64 a_1.2)]) (rd_of (keep_clear (s := s) (pk := [1, 2]) h0 rfl (map_agg (maps_cons rfl (maps_cons rfl maps_nil)))) rfl) (gone_clear (s := s) (pk := [1, 2]) (t := 1) rfl) rfl ?_
  refine g_alloc (gone_clear (s := s) (pk := [1, 2]) (t := 2) rfl) ?_
  refine g_end ?_
  refine e_end ?_
  refine renew [(1, (.ref (.bx 1) 0 [] (.agg [(.int .i64 a_1.1), (.int .i64 a_1.2)]))), (2, (.ref (.bx 2) 0 [] (.agg [(.int .i64 0), (.int .i64 0)])))] ⟨rfl, rfl⟩ ?_
  rintro s ⟨h1, h2⟩
  refine .nsq ?_
  refine .seq ?_
  refine run_reg ?_
  refine e_clr ?_
  refine e_end ?_
  refine g_alloc (gone_clear (s := s) (pk := [3]) (t := 3) rfl) ?_
  refine g_end ?_
  refine e_end ?_
  refine renew [(1, (.ref (.bx 1) 0 [] (.agg [(.int .i64 a_1.1), (.int .i64 a_1.2)]))), (2, (.ref (.bx 2) 0 [] (.agg [(.int .i64 0), (.int .i64 0)]))), (3, (.ref (.bx 3) 0 [] (.agg [(.int .i64 0), (.int .i64 0)])))] ⟨(keep_clear (s := s) (pk := [3]) h1 rfl (map_bx rfl (map_agg (maps_cons rfl (maps_cons rfl maps_nil))))), (keep_clear (s := s) (pk := [3]) h2 rfl (map_bx rfl (map_agg (maps_cons rfl (maps_cons rfl maps_nil))))), rfl⟩ ?_
  rintro s ⟨h1, h2, h3⟩
  refine .nsq ?_
  refine .seq ?_
  refine .seq ?_
  refine run_reg ?_
  refine e_end ?_
  refine g_v0 (.int .i64 0) rfl rfl ?_
  refine g_end ?_
  refine e_end ?_
  refine renew [(1, (.ref (.bx 1) 0 [] (.agg [(.int .i64 a_1.1), (.int .i64 a_1.2)]))), (2, (.ref (.bx 2) 0 [] (.agg [(.int .i64 0), (.int .i64 0)]))), (3, (.ref (.bx 3) 0 [] (.agg [(.int .i64 0), (.int .i64 0)]))), (4, (.int .i64 0))] ⟨h1, h2, h3, rfl⟩ ?_
  rintro s ⟨h1, h2, h3, h4⟩
  refine .nsq ?_
  refine .block ?_
  refine .loop ?_
  exact t_f59_l1 H a_1 F 0 0 0 _ ⟨h1, h2, h3, h4⟩ h
end
def e59 (F : Nat) : Ent := ⟨59, dn1 (w_toIntA2 F) (fun (r : (Int × Int)) => (Enc.enc (r : (Int × Int)))), 0, true⟩
theorem o59 {D : Den} {σ : Sig} {F : Nat} (hF : Fits2 Try.prog D σ) (H : H59 D σ F) : (e59 F).Ok Try.prog := by
  refine ⟨fun args r h => ?_, ⟨Try.f59, Try.func59, rfl, rfl⟩⟩
  obtain ⟨x0, y, rfl, hy, rfl⟩ := dn1_open h
  exact contract_run hF (by kernel_rfl) Try.func59 rfl c59 (show 1 ≤ Try.f59.ntmps by decide) (t59 H x0 _ rfl hy)
/- loop.example/g01109/laws.toIntA2S -/
def A32_2 : AC := (AC.cond (O.t 11) AC.skip (AC.exit 0))
def A32_4 : AC := (AC.reg [] [(I.mk (some 12) none false (X.v (A.mov (O.t 4)))), (I.mk (some 13) none false (X.v (A.bin BinOp.add (O.t 12) (O.k (V.int IntKind.i64 (Int.ofNat 1)))))), (I.mk (some 4) none false (X.v (A.mov (O.t 13))))] [])
def A32_3 : AC := (AC.seq (AC.block 1 (AC.reg [] [(I.mk (some 14) none false (X.v (A.mov (O.t 3)))), (I.mk (some 15) none false (X.v (A.mov (O.t 4)))), (I.mk (some 16) none false (X.v (A.mov (O.t 0)))), (I.mk (some 17) none false (X.v (A.mov (O.t 4)))), (I.mk (some 18) none false (X.v (A.idx (O.t 16) (O.t 17) 2))), (I.mk (some 19) none false (X.v (A.load (Sh.ag [Sh.s, Sh.s]) (O.t 18)))), (I.mk (some 20) none false (X.call (O.k (V.fn 59 [] [])) [(O.t 19)])), (I.mk (some 21) none false (X.v (A.idx (O.t 14) (O.t 15) 2))), (I.mk none none false (X.store (Sh.ag [Sh.s, Sh.s]) (O.t 21) (O.t 20)))] [])) A32_4)
def A32_1 : AC := (AC.seq (AC.seq (AC.reg [] [(I.mk (some 8) none false (X.v (A.mov (O.t 4)))), (I.mk (some 9) none false (X.v (A.mov (O.t 0)))), (I.mk (some 10) none false (X.v (A.len (O.t 9)))), (I.mk (some 11) none false (X.v (A.bin BinOp.lss (O.t 8) (O.t 10))))] []) A32_2) A32_3)
def A32_5 : AC := (AC.seq (AC.reg [] [(I.mk (some 22) none false (X.v (A.mov (O.t 3)))), (I.mk (some 2) none false (X.v (A.mov (O.t 22))))] [.home 3 2]) AC.ret)
def A32_8 : AC := (AC.block 0 (AC.loop A32_1))
def A32_7 : AC := (AC.seq (AC.seq (AC.reg [] [(I.mk (some 4) none false (X.v (A.mov (O.k (V.int IntKind.i64 (Int.ofNat 0))))))] []) A32_8) A32_5)
def A32_6 : AC := (AC.seq (AC.reg [.clr [7]] [(I.mk (some 5) none false (X.v (A.mov (O.t 0)))), (I.mk (some 6) none false (X.v (A.len (O.t 5)))), (I.mk (some 7) none false (X.mk (O.t 6) (V.agg [(V.int IntKind.i64 (Int.ofNat 0)), (V.int IntKind.i64 (Int.ofNat 0))]))), (I.mk (some 3) none false (X.v (A.mov (O.t 7))))] [.home 7 3]) A32_7)
def A32 : AC := (AC.seq (AC.reg [] [(I.mk (some 2) none false (X.v (A.mov (O.k (V.sl Tok.nl (Sh.ag [Sh.s, Sh.s]) 0 [])))))] []) A32_6)
def an32 : List An := [{ id := 1, pre := [.clr [7]], ep := [.home 7 3] }, { id := 6, pre := [], ep := [.home 3 2] }]
theorem c32 : cC Try.prog Try.f32.ntmps an32 (Try.f32.body.getD .skip) = some A32 := by kernel_rfl
structure H32 (D : Den) (σ : Sig) (F : Nat) : Prop where
  c59 : ∀ x0 r, w_toIntA2 F x0 = some r → D 59 [Enc.enc x0] = some (Enc.enc (r : (Int × Int)))
  g59 : σ 59 = some (0, true)
abbrev R32 (r : (List (Int × Int))) : (Nat → V) → Prop := RR Try.prog [.tmp 2] 0 true (Enc.enc (r : (List (Int × Int))))
section
variable {D : Den} {σ : Sig} {F : Nat} {r : (List (Int × Int))}
def w_toIntA2S_l1 (F : Nat) (a_1 : (List (Int × Int)))  : Nat → (List (Int × Int)) → Int → Option (List (Int × Int))
  | 0, _, _ => none
  | k + 1, out_6, i_7 =>
    bif decide (i_7 < (a_1.length : Int)) then
      (idx a_1 i_7).bind fun e_11 =>
      (w_toIntA2 F e_11).bind fun r_12 =>
      (idx out_6 i_7).bind fun e_13 =>
      (w_toIntA2S_l1 F a_1 k) (out_6.set i_7.toNat r_12) (w64 (i_7 + 1))
    else
      some out_6
theorem t_f32_l1 (H : H32 D σ F) (a_1 : (List (Int × Int)))  : ∀ (k : Nat) (out_6 : (List (Int × Int))) (i_7 : Int) (s : Nat → V), Facts [(0, (Enc.enc (a_1 : List (Int × Int)))), (2, (.sl .nl (Enc.shp (Int × Int)) 0 [])), (3, (encO (.at 3 []) (.of (out_6 : List (Int × Int))))), (4, (.int .i64 i_7))] s → w_toIntA2S_l1 F a_1 k out_6 i_7 = some r → Run D σ (R32 r) (.run A32_1 [.lp A32_1, .bk 0, .sq A32_5]) s := by
  intro k
  induction k with
  | zero => intro out_6 i_7 s _ h; exact nomatch (h : (none : Option _) = some r)
  | succ k ih =>
    intro out_6 i_7 s hs h
    rw [w_toIntA2S_l1] at h
    obtain ⟨h0, h2, h3, h4⟩ := hs
    refine .seq ?_
    refine .seq ?_
    refine run_reg ?_
    refine e_end ?_
    refine g_v1 (t := 4) (u := (.int .i64 i_7)) (.int .i64 i_7) h4 rfl rfl ?_
    refine g_v1 (t := 0) (u := (Enc.enc (a_1 : List (Int × Int)))) (Enc.enc (a_1 : List (Int × Int))) h0 rfl rfl ?_
    refine g_v (.int .i64 (a_1.length : Int)) (ev_len (xs := a_1) rfl) ?_
    refine g_v2 (t1 := 8) (t2 := 10) (u1 := (.int .i64 i_7)) (u2 := (.int .i64 (a_1.length : Int))) (.bool (decide (i_7 < (a_1.length : Int)))) rfl rfl rfl rfl ?_
    refine g_end ?_
    refine e_end ?_
    refine renew [(0, (Enc.enc (a_1 : List (Int × Int)))), (2, (.sl .nl (Enc.shp (Int × Int)) 0 [])), (3, (encO (.at 3 []) (.of (out_6 : List (Int × Int))))), (4, (.int .i64 i_7)), (11, (.bool (decide (i_7 < (a_1.length : Int)))))] ⟨h0, h2, h3, h4, rfl⟩ ?_
    rintro s ⟨h0, h2, h3, h4, h11⟩
    refine .nsq ?_
    refine run_cond (t := decide (i_7 < (a_1.length : Int))) h11 h (fun h => ?_) (fun h => ?_)
    · refine .skip ?_
      refine .nsq ?_
      refine .seq ?_
      refine .block ?_
      refine run_reg ?_
      refine e_end ?_
      refine g_v1 (t := 3) (u := (encO (.at 3 []) (.of (out_6 : List (Int × Int))))) (encO (.at 3 []) (.of (out_6 : List (Int × Int)))) h3 rfl rfl ?_
      refine g_v1 (t := 4) (u := (.int .i64 i_7)) (.int .i64 i_7) h4 rfl rfl ?_
      refine g_v1 (t := 0) (u := (Enc.enc (a_1 : List (Int × Int)))) (Enc.enc (a_1 : List (Int × Int))) h0 rfl rfl ?_
      refine g_v1 (t := 4) (u := (.int .i64 i_7)) (.int .i64 i_7) h4 rfl rfl ?_
      obtain ⟨e_11, E_e_11, h⟩ := bind_some h
      refine g_v (.ref .sh 0 [] (.agg [(.int .i64 e_11.1), (.int .i64 e_11.2)])) (ev_idx (t := .sh) (lo := 0) (xs := a_1) rfl rfl E_e_11 rfl rfl) ?_
      refine g_v1 (t := 18) (u := (.ref .sh 0 [] (.agg [(.int .i64 e_11.1), (.int .i64 e_11.2)]))) (.agg [(.int .i64 e_11.1), (.int .i64 e_11.2)]) rfl rfl rfl ?_
      obtain ⟨r_12, E_r_12, h⟩ := bind_some h
      refine g_call (m := 0) (al := true) (r := (Enc.enc (r_12 : (Int × Int)))) [Enc.enc (e_11 : (Int × Int))] (ta_cons (v := (.agg [(.int .i64 e_11.1), (.int .i64 e_11.2)])) rfl rfl (Enc.erase_enc (e_11 : (Int × Int))) ta_nil) (H.c59 _ _ E_r_12) H.g59 (hal_of (ht_cons (v := (.agg [(.int .i64 e_11.1), (.int .i64 e_11.2)])) rfl rfl rfl ht_nil)) rfl rfl rfl ?_
      obtain ⟨e_13, E_e_13, h⟩ := bind_some h
      refine g_v (.ref (.at 3 []) i_7.toNat [] (.agg [(.int .i64 e_13.1), (.int .i64 e_13.2)])) (ev_idxO (o := (.of out_6)) rfl rfl E_e_13 rfl) ?_
      refine g_store (.agg [(.int .i64 r_12.1), (.int .i64 r_12.2)]) (rd_of rfl rfl) (rd_of rfl rfl) (by refine ⟨by decide, by decide, rfl, rfl, rfl, ?_⟩; first | rfl | simp [V.toks, V.tokss, Enc.toks_enc]) ?_
      refine g_end ?_
      refine e_end ?_
      refine renew [(0, (Enc.enc (a_1 : List (Int × Int)))), (2, (.sl .nl (Enc.shp (Int × Int)) 0 [])), (3, (encO (.at 3 []) (.of (out_6.set i_7.toNat r_12 : List (Int × Int))))), (4, (.int .i64 i_7))] ⟨(keep_mut h0 (Enc.mut_enc _ _ _ _ (a_1 : List (Int × Int)))), (keep_mut h2 rfl), (keep_mut h3 mut_own), (keep_mut h4 rfl)⟩ ?_
      rintro s ⟨h0, h2, h3, h4⟩
      refine .nbk ?_
      refine .nsq ?_
      refine run_reg ?_
      refine e_end ?_
      refine g_v1 (t := 4) (u := (.int .i64 i_7)) (.int .i64 i_7) h4 rfl rfl ?_
      refine g_v1 (t := 12) (u := (.int .i64 i_7)) (.int .i64 (w64 (i_7 + 1))) rfl rfl rfl ?_
      refine g_v1 (t := 13) (u := (.int .i64 (w64 (i_7 + 1)))) (.int .i64 (w64 (i_7 + 1))) rfl rfl rfl ?_
      refine g_end ?_
      refine e_end ?_
      refine renew [(0, (Enc.enc (a_1 : List (Int × Int)))), (2, (.sl .nl (Enc.shp (Int × Int)) 0 [])), (3, (encO (.at 3 []) (.of (out_6.set i_7.toNat r_12 : List (Int × Int))))), (4, (.int .i64 (w64 (i_7 + 1))))] ⟨h0, h2, h3, rfl⟩ ?_
      rintro s ⟨h0, h2, h3, h4⟩
      refine .nlp ?_
      exact ih (out_6.set i_7.toNat r_12) (w64 (i_7 + 1)) _ ⟨h0, h2, h3, h4⟩ h
    · refine .exit ?_
      refine .esq ?_
      refine .elp ?_
      refine .ebk ?_
      refine .nsq ?_
      refine .seq ?_
      refine run_reg ?_
      refine e_end ?_
      refine g_v1 (t := 3) (u := (encO (.at 3 []) (.of (out_6 : List (Int × Int))))) (encO (.at 3 []) (.of (out_6 : List (Int × Int)))) h3 rfl rfl ?_
      refine g_v1 (t := 22) (u := (encO (.at 3 []) (.of (out_6 : List (Int × Int))))) (encO (.at 3 []) (.of (out_6 : List (Int × Int)))) rfl rfl rfl ?_
      refine g_end ?_
      refine e_home (r := 3) (x := 2) (v := (encO (.at 3 []) (.of (out_6 : List (Int × Int))))) (by exact rfl) rfl (fun s_3 hg_3 => ?_)
      refine e_end ?_
      refine renew [(2, (encO (.at 2 []) (.of (out_6 : List (Int × Int)))))] (hg_3 2 (encO (.at 3 []) (.of (out_6 : List (Int × Int)))) (encO (.at 2 []) (.of (out_6 : List (Int × Int)))) rfl (map_encO (r := 3) (p := []) rfl rfl)) ?_
      rintro s h2
      refine .nsq ?_
      refine .ret ?_
      have hr := Option.some.inj h
      subst hr
      exact rrA (res_tmp h2) (fin_ret1 (fin_own (o := .of out_6)))
def w_toIntA2S (F : Nat) (a_1 : (List (Int × Int))) : Option (List (Int × Int)) :=
  (mkN (a_1.length : Int) (0, 0)).bind fun mk_2 =>
  w_toIntA2S_l1 F a_1 F mk_2 0
theorem t32 (H : H32 D σ F) (a_1 : (List (Int × Int))) (s : Nat → V) (hs : Facts [(0, (Enc.enc (a_1 : List (Int × Int))))] s) (h : w_toIntA2S F a_1 = some r) : Run D σ (R32 r) (.run A32 []) s := by
  unfold w_toIntA2S at h
  have h0 := hs
  refine .seq ?_
  refine run_reg ?_
  refine e_end ?_
  refine g_v0 (.sl .nl (Enc.shp (Int × Int)) 0 []) rfl rfl ?_
  refine g_end ?_
  refine e_end ?_
  refine renew [(0, (Enc.enc (a_1 : List (Int × Int)))), (2, (.sl .nl (Enc.shp (Int × Int)) 0 []))] ⟨h0, rfl⟩ ?_
  rintro s ⟨h0, h2⟩
  refine .nsq ?_
  refine .seq ?_
  refine run_reg ?_
  refine e_clr ?_
  refine e_end ?_
  refine g_v1 (t := 0) (u := (Enc.enc (a_1 : List (Int × Int)))) (Enc.enc (a_1 : List (Int × Int))) (keep_clear (s := s) (pk := [7]) h0 rfl (Enc.map_enc _ (a_1 : List (Int × Int)))) rfl rfl ?_
  refine g_v (.int .i64 (a_1.length : Int)) (ev_len (xs := a_1) rfl) ?_
  obtain ⟨mk_2, E_mk_2, h⟩ := bind_some h
  refine g_mk ((0, 0) : (Int × Int)) rfl rfl (gone_clear (s := s) (pk := [7]) (t := 7) rfl) E_mk_2 ?_
  refine g_v1 (t := 7) (u := (encO (.at 7 []) (.of (mk_2 : List (Int × Int))))) (encO (.at 7 []) (.of (mk_2 : List (Int × Int)))) rfl rfl rfl ?_
  refine g_end ?_
  refine e_home (r := 7) (x := 3) (v := (encO (.at 7 []) (.of (mk_2 : List (Int × Int))))) (by exact rfl) rfl (fun s_2 hg_2 => ?_)
  refine e_end ?_
  refine renew [(0, (Enc.enc (a_1 : List (Int × Int)))), (2, (.sl .nl (Enc.shp (Int × Int)) 0 [])), (3, (encO (.at 3 []) (.of (mk_2 : List (Int × Int)))))] ⟨(hg_2 0 (Enc.enc (a_1 : List (Int × Int))) (Enc.enc (a_1 : List (Int × Int))) (keep_clear (s := s) (pk := [7]) h0 rfl (Enc.map_enc _ (a_1 : List (Int × Int)))) (Enc.map_enc _ (a_1 : List (Int × Int)))), (hg_2 2 (.sl .nl (Enc.shp (Int × Int)) 0 []) (.sl .nl (Enc.shp (Int × Int)) 0 []) (keep_clear (s := s) (pk := [7]) h2 rfl rfl) rfl), (hg_2 3 (encO (.at 7 []) (.of (mk_2 : List (Int × Int)))) (encO (.at 3 []) (.of (mk_2 : List (Int × Int)))) rfl (map_encO (r := 7) (p := []) rfl rfl))⟩ ?_
  rintro s ⟨h0, h2, h3⟩
  refine .nsq ?_
  refine .seq ?_
  refine .seq ?_
  refine run_reg ?_
  refine e_end ?_
  refine g_v0 (.int .i64 0) rfl rfl ?_
  refine g_end ?_
  refine e_end ?_
  refine renew [(0, (Enc.enc (a_1 : List (Int × Int)))), (2, (.sl .nl (Enc.shp (Int × Int)) 0 [])), (3, (encO (.at 3 []) (.of (mk_2 : List (Int × Int))))), (4, (.int .i64 0))] ⟨h0, h2, h3, rfl⟩ ?_
  rintro s ⟨h0, h2, h3, h4⟩
  refine .nsq ?_
  refine .block ?_
  refine .loop ?_
  exact t_f32_l1 H a_1 F mk_2 0 _ ⟨h0, h2, h3, h4⟩ h
end
def e32 (F : Nat) : Ent := ⟨32, dn1 (w_toIntA2S F) (fun (r : (List (Int × Int))) => (Enc.enc (r : (List (Int × Int))))), 0, true⟩
theorem o32 {D : Den} {σ : Sig} {F : Nat} (hF : Fits2 Try.prog D σ) (H : H32 D σ F) : (e32 F).Ok Try.prog := by
  refine ⟨fun args r h => ?_, ⟨Try.f32, Try.func32, rfl, rfl⟩⟩
  obtain ⟨x0, y, rfl, hy, rfl⟩ := dn1_open h
  exact contract_run hF (by kernel_rfl) Try.func32 rfl c32 (show 1 ≤ Try.f32.ntmps by decide) (t32 H x0 _ rfl hy)
/- loop.example/g01109/laws.toGraph -/
def A11_4 : AC := (AC.seq (AC.reg [] [(I.mk (some 11) none false (X.v (A.load (Sh.ag [Sh.s, Sh.p]) (O.t 3)))), (I.mk none none false (X.store (Sh.ag [Sh.s, Sh.p]) (O.t 2) (O.t 11)))] []) AC.ret)
def A11_3 : AC := (AC.seq (AC.reg [] [(I.mk (some 7) none false (X.v (A.fld (O.t 1) 1 1))), (I.mk (some 8) none false (X.v (A.load Sh.p (O.t 7)))), (I.mk (some 9) none false (X.call (O.k (V.fn 32 [] [])) [(O.t 8)])), (I.mk (some 10) none false (X.v (A.fld (O.t 3) 1 1))), (I.mk none none false (X.store Sh.p (O.t 10) (O.t 9)))] []) A11_4)
def A11_2 : AC := (AC.seq (AC.reg [] [(I.mk (some 4) none false (X.v (A.fld (O.t 1) 0 0))), (I.mk (some 5) none false (X.v (A.load Sh.s (O.t 4)))), (I.mk (some 6) none false (X.v (A.fld (O.t 3) 0 0))), (I.mk none none false (X.store Sh.s (O.t 6) (O.t 5)))] []) A11_3)
def A11_1 : AC := (AC.seq (AC.reg [.clr [3]] [(I.mk (some 3) none false (X.alloc (V.agg [(V.int IntKind.i64 (Int.ofNat 0)), (V.sl Tok.nl (Sh.ag [Sh.s, Sh.s]) 0 [])])))] []) A11_2)
def A11 : AC := (AC.seq (AC.reg [.clr [1, 2]] [(I.mk (some 1) none false (X.box (O.t 0))), (I.mk (some 2) none false (X.alloc (V.agg [(V.int IntKind.i64 (Int.ofNat 0)), (V.sl Tok.nl (Sh.ag [Sh.s, Sh.s]) 0 [])])))] []) A11_1)
def an11 : List An := [{ id := 0, pre := [.clr [1, 2]], ep := [] }, { id := 1, pre := [.clr [3]], ep := [] }]
theorem c11 : cC Try.prog Try.f11.ntmps an11 (Try.f11.body.getD .skip) = some A11 := by kernel_rfl
structure H11 (D : Den) (σ : Sig) (F : Nat) : Prop where
  c32 : ∀ x0 r, w_toIntA2S F x0 = some r → D 32 [Enc.enc x0] = some (Enc.enc (r : (List (Int × Int))))
  g32 : σ 32 = some (0, true)
abbrev R11 (r : (Int × (List (Int × Int)))) : (Nat → V) → Prop := RR Try.prog [.cell 2 29] 0 true (Enc.enc (r : (Int × (List (Int × Int)))))
section
variable {D : Den} {σ : Sig} {F : Nat} {r : (Int × (List (Int × Int)))}
def w_toGraph (F : Nat) (a_1 : (Int × (List (Int × Int)))) : Option (Int × (List (Int × Int))) :=
  (w_toIntA2S F a_1.2).bind fun r_2 =>
  some (a_1.1, r_2)
theorem t11 (H : H11 D σ F) (a_1 : (Int × (List (Int × Int)))) (s : Nat → V) (hs : Facts [(0, (.agg [(.int .i64 a_1.1), (Enc.enc (a_1.2 : List (Int × Int)))]))] s) (h : w_toGraph F a_1 = some r) : Run D σ (R11 r) (.run A11 []) s := by
  unfold w_toGraph at h
  have h0 := hs
  refine .seq ?_
  refine run_reg ?_
  refine e_clr ?_
  refine e_end ?_
  refine g_box (.agg [(.int .i64 a_1.1), (Enc.enc (a_1.2 : List (Int × Int)))]) (rd_of (keep_clear (s := s) (pk := [1, 2]) h0 rfl (map_agg (maps_cons rfl (maps_cons (Enc.map_enc _ (a_1.2 : List (Int × Int))) maps_nil)))) rfl) (gone_clear (s := s) (pk := [1, 2]) (t := 1) rfl) rfl ?_
  refine g_alloc (gone_clear (s := s) (pk := [1, 2]) (t := 2) rfl) ?_
  refine g_end ?_
  refine e_end ?_
  refine renew [(1, (.ref (.bx 1) 0 [] (.agg [(.int .i64 a_1.1), (Enc.enc (a_1.2 : List (Int × Int)))]))), (2, (.ref (.bx 2) 0 [] (.agg [(.int .i64 0), (.sl .nl (Enc.shp (Int × Int)) 0 [])])))] ⟨rfl, rfl⟩ ?_
  rintro s ⟨h1, h2⟩
  refine .nsq ?_
  refine .seq ?_
  refine run_reg ?_
  refine e_clr ?_
  refine e_end ?_
  refine g_alloc (gone_clear (s := s) (pk := [3]) (t := 3) rfl) ?_
  refine g_end ?_
  refine e_end ?_
  refine renew [(1, (.ref (.bx 1) 0 [] (.agg [(.int .i64 a_1.1), (Enc.enc (a_1.2 : List (Int × Int)))]))), (2, (.ref (.bx 2) 0 [] (.agg [(.int .i64 0), (.sl .nl (Enc.shp (Int × Int)) 0 [])]))), (3, (.ref (.bx 3) 0 [] (.agg [(.int .i64 0), (.sl .nl (Enc.shp (Int × Int)) 0 [])])))] ⟨(keep_clear (s := s) (pk := [3]) h1 rfl (map_bx rfl (map_agg (maps_cons rfl (maps_cons (Enc.map_enc _ (a_1.2 : List (Int × Int))) maps_nil))))), (keep_clear (s := s) (pk := [3]) h2 rfl (map_bx rfl (map_agg (maps_cons rfl (maps_cons rfl maps_nil))))), rfl⟩ ?_
  rintro s ⟨h1, h2, h3⟩
  refine .nsq ?_
  refine .seq ?_
  refine run_reg ?_
  refine e_end ?_
  refine g_v1 (t := 1) (u := (.ref (.bx 1) 0 [] (.agg [(.int .i64 a_1.1), (Enc.enc (a_1.2 : List (Int × Int)))]))) (.ref (.bx 1) 0 [0] (.int .i64 a_1.1)) h1 rfl rfl ?_
  refine g_v1 (t := 4) (u := (.ref (.bx 1) 0 [0] (.int .i64 a_1.1))) (.int .i64 a_1.1) rfl rfl rfl ?_
  refine g_v1 (t := 3) (u := (.ref (.bx 3) 0 [] (.agg [(.int .i64 0), (.sl .nl (Enc.shp (Int × Int)) 0 [])]))) (.ref (.bx 3) 0 [0] (.int .i64 0)) h3 rfl rfl ?_
  refine g_store (.int .i64 a_1.1) (rd_of rfl rfl) (rd_of rfl rfl) (by refine ⟨by decide, by decide, rfl, rfl, rfl, ?_⟩; first | rfl | simp [V.toks, V.tokss, Enc.toks_enc]) ?_
  refine g_end ?_
  refine e_end ?_
  refine renew [(1, (.ref (.bx 1) 0 [] (.agg [(.int .i64 a_1.1), (Enc.enc (a_1.2 : List (Int × Int)))]))), (2, (.ref (.bx 2) 0 [] (.agg [(.int .i64 0), (.sl .nl (Enc.shp (Int × Int)) 0 [])]))), (3, (.ref (.bx 3) 0 [] (.agg [(.int .i64 a_1.1), (.sl .nl (Enc.shp (Int × Int)) 0 [])])))] ⟨(keep_mut h1 (mut_ref_ne rfl rfl (mut_agg (muts_cons rfl (muts_cons (Enc.mut_enc _ _ _ _ (a_1.2 : List (Int × Int))) rfl))))), (keep_mut h2 (mut_ref_ne rfl rfl (mut_agg (muts_cons rfl (muts_cons rfl rfl))))), (keep_mut h3 rfl)⟩ ?_
  rintro s ⟨h1, h2, h3⟩
  refine .nsq ?_
  refine .seq ?_
  refine run_reg ?_
  refine e_end ?_
  refine g_v1 (t := 1) (u := (.ref (.bx 1) 0 [] (.agg [(.int .i64 a_1.1), (Enc.enc (a_1.2 : List (Int × Int)))]))) (.ref (.bx 1) 0 [1] (Enc.enc (a_1.2 : List (Int × Int)))) h1 rfl rfl ?_
  refine g_v1 (t := 7) (u := (.ref (.bx 1) 0 [1] (Enc.enc (a_1.2 : List (Int × Int))))) (Enc.enc (a_1.2 : List (Int × Int))) rfl rfl rfl ?_
  obtain ⟨r_2, E_r_2, h⟩ := bind_some h
  refine g_call (m := 0) (al := true) (r := (Enc.enc (r_2 : (List (Int × Int))))) [Enc.enc (a_1.2 : (List (Int × Int)))] (ta_cons (v := (Enc.enc (a_1.2 : List (Int × Int)))) rfl rfl (Enc.erase_enc (a_1.2 : (List (Int × Int)))) ta_nil) (H.c32 _ _ E_r_2) H.g32 (hal_of (ht_cons (v := (Enc.enc (a_1.2 : List (Int × Int)))) rfl rfl rfl ht_nil)) rfl rfl rfl ?_
  refine g_v1 (t := 3) (u := (.ref (.bx 3) 0 [] (.agg [(.int .i64 a_1.1), (.sl .nl (Enc.shp (Int × Int)) 0 [])]))) (.ref (.bx 3) 0 [1] (.sl .nl (Enc.shp (Int × Int)) 0 [])) h3 rfl rfl ?_
  refine g_store (Enc.enc (r_2 : List (Int × Int))) (rd_of rfl rfl) (rd_of rfl rfl) (by refine ⟨by decide, by decide, rfl, rfl, rfl, ?_⟩; first | rfl | simp [V.toks, V.tokss, Enc.toks_enc]) ?_
  refine g_end ?_
  refine e_end ?_
  refine renew [(2, (.ref (.bx 2) 0 [] (.agg [(.int .i64 0), (.sl .nl (Enc.shp (Int × Int)) 0 [])]))), (3, (.ref (.bx 3) 0 [] (.agg [(.int .i64 a_1.1), (Enc.enc (r_2 : List (Int × Int)))])))] ⟨(keep_mut h2 (mut_ref_ne rfl rfl (mut_agg (muts_cons rfl (muts_cons rfl rfl))))), (keep_mut h3 rfl)⟩ ?_
  rintro s ⟨h2, h3⟩
  refine .nsq ?_
  refine .seq ?_
  refine run_reg ?_
  refine e_end ?_
  refine g_v1 (t := 3) (u := (.ref (.bx 3) 0 [] (.agg [(.int .i64 a_1.1), (Enc.enc (r_2 : List (Int × Int)))]))) (.agg [(.int .i64 a_1.1), (Enc.enc (r_2 : List (Int × Int)))]) h3 rfl rfl ?_
  refine g_store (.agg [(.int .i64 a_1.1), (Enc.enc (r_2 : List (Int × Int)))]) (rd_of h2 rfl) (rd_of rfl rfl) (by refine ⟨by decide, by decide, rfl, rfl, rfl, ?_⟩; first | rfl | simp [V.toks, V.tokss, Enc.toks_enc]) ?_
  refine g_end ?_
  refine e_end ?_
  refine renew [(2, (.ref (.bx 2) 0 [] (.agg [(.int .i64 a_1.1), (Enc.enc (r_2 : List (Int × Int)))])))] (keep_mut h2 rfl) ?_
  rintro s h2
  refine .nsq ?_
  refine .ret ?_
  have hr := Option.some.inj h
  subst hr
  exact rrA (res_cell h2 rfl) (fin_ret1 (fin_enc (x := ((a_1.1, r_2) : (Int × (List (Int × Int)))))))
end
def e11 (F : Nat) : Ent := ⟨11, dn1 (w_toGraph F) (fun (r : (Int × (List (Int × Int)))) => (Enc.enc (r : (Int × (List (Int × Int)))))), 0, true⟩
theorem o11 {D : Den} {σ : Sig} {F : Nat} (hF : Fits2 Try.prog D σ) (H : H11 D σ F) : (e11 F).Ok Try.prog := by
  refine ⟨fun args r h => ?_, ⟨Try.f11, Try.func11, rfl, rfl⟩⟩
  obtain ⟨x0, y, rfl, hy, rfl⟩ := dn1_open h
  exact contract_run hF (by kernel_rfl) Try.func11 rfl c11 (show 1 ≤ Try.f11.ntmps by decide) (t11 H x0 _ rfl hy)
/- loop.example/g01109/spec.l1In -/
def A56_1 : AC := (AC.seq (AC.reg [] [(I.mk (some 7) none false (X.v (A.mov (O.t 0)))), (I.mk (some 8) none false (X.v (A.mov (O.t 1)))), (I.mk (some 9) none false (X.v (A.bin BinOp.geq (O.t 7) (O.t 8)))), (I.mk (some 10) none false (X.v (A.mov (O.t 9)))), (I.mk (some 11) (some (10, true)) false (X.v (A.mov (O.t 0)))), (I.mk (some 12) (some (10, true)) false (X.v (A.mov (O.t 2)))), (I.mk (some 13) (some (10, true)) false (X.v (A.bin BinOp.leq (O.t 11) (O.t 12)))), (I.mk (some 14) none false (X.v (A.pick (O.t 10) (O.t 13) (O.k (V.bool false))))), (I.mk (some 6) none false (X.v (A.mov (O.t 14))))] []) AC.ret)
def A56 : AC := (AC.seq (AC.reg [] [(I.mk (some 6) none false (X.v (A.mov (O.k (V.bool false)))))] []) A56_1)
def an56 : List An := []
theorem c56 : cC Try.prog Try.f56.ntmps an56 (Try.f56.body.getD .skip) = some A56 := by kernel_rfl
structure H56 (D : Den) (σ : Sig) (F : Nat) : Prop where
  mk ::
abbrev R56 (r : Bool) : (Nat → V) → Prop := RR Try.prog [.tmp 6] 0 false (Enc.enc (r : Bool))
section
variable {D : Den} {σ : Sig} {F : Nat} {r : Bool}
def s_l1In (F : Nat) (x_1 : Int) (a_2 : Int) (b_3 : Int) : Option Bool :=
  bif decide (x_1 ≥ a_2) then
    some (decide (x_1 ≤ b_3))
  else
    some false
theorem t56 (H : H56 D σ F) (x_1 : Int) (a_2 : Int) (b_3 : Int) (s : Nat → V) (hs : Facts [(0, (.int .i64 x_1)), (1, (.int .i64 a_2)), (2, (.int .i64 b_3))] s) (h : s_l1In F x_1 a_2 b_3 = some r) : Run D σ (R56 r) (.run A56 []) s := by
  unfold s_l1In at h
  obtain ⟨h0, h1, h2⟩ := hs
  refine .seq ?_
  refine run_reg ?_
  refine e_end ?_
  refine g_v0 (.bool false) rfl rfl ?_
  refine g_end ?_
  refine e_end ?_
  refine renew [(0, (.int .i64 x_1)), (1, (.int .i64 a_2)), (2, (.int .i64 b_3)), (6, (.bool false))] ⟨h0, h1, h2, rfl⟩ ?_
  rintro s ⟨h0, h1, h2, h6⟩
  refine .nsq ?_
  refine .seq ?_
  refine run_reg ?_
  refine e_end ?_
  refine g_v1 (t := 0) (u := (.int .i64 x_1)) (.int .i64 x_1) h0 rfl rfl ?_
  refine g_v1 (t := 1) (u := (.int .i64 a_2)) (.int .i64 a_2) h1 rfl rfl ?_
  refine g_v2 (t1 := 7) (t2 := 8) (u1 := (.int .i64 x_1)) (u2 := (.int .i64 a_2)) (.bool (decide (x_1 ≥ a_2))) rfl rfl rfl rfl ?_
  refine g_v1 (t := 9) (u := (.bool (decide (x_1 ≥ a_2)))) (.bool (decide (x_1 ≥ a_2))) rfl rfl rfl ?_
  refine split_on (c := decide (x_1 ≥ a_2)) h (fun hg4 h => ?_) (fun hg4 h => ?_)
  · refine g_yes (Eq.trans (b := .bool (decide (x_1 ≥ a_2))) rfl (congrArg V.bool hg4)) (g_v1 (t := 0) (u := (.int .i64 x_1)) (.int .i64 x_1) h0 rfl rfl ?_)
    refine g_yes (Eq.trans (b := .bool (decide (x_1 ≥ a_2))) rfl (congrArg V.bool hg4)) (g_v1 (t := 2) (u := (.int .i64 b_3)) (.int .i64 b_3) h2 rfl rfl ?_)
    refine g_yes (Eq.trans (b := .bool (decide (x_1 ≥ a_2))) rfl (congrArg V.bool hg4)) (g_v2 (t1 := 11) (t2 := 12) (u1 := (.int .i64 x_1)) (u2 := (.int .i64 b_3)) (.bool (decide (x_1 ≤ b_3))) rfl rfl rfl rfl ?_)
    refine g_v2 (t1 := 10) (t2 := 13) (u1 := (.bool true)) (u2 := (.bool (decide (x_1 ≤ b_3)))) (.bool (decide (x_1 ≤ b_3))) (Eq.trans (b := .bool (decide (x_1 ≥ a_2))) rfl (congrArg V.bool hg4)) rfl rfl rfl ?_
    refine g_v1 (t := 14) (u := (.bool (decide (x_1 ≤ b_3)))) (.bool (decide (x_1 ≤ b_3))) rfl rfl rfl ?_
    refine g_end ?_
    refine e_end ?_
    refine renew [(6, (.bool (decide (x_1 ≤ b_3))))] rfl ?_
    rintro s h6
    refine .nsq ?_
    refine .ret ?_
    have hr := Option.some.inj h
    subst hr
    exact rrA (res_tmp h6) rfl
  · refine g_no (Eq.trans (b := .bool (decide (x_1 ≥ a_2))) rfl (congrArg V.bool hg4)) ?_
    refine g_no (Eq.trans (b := .bool (decide (x_1 ≥ a_2))) rfl (congrArg V.bool hg4)) ?_
    refine g_no (Eq.trans (b := .bool (decide (x_1 ≥ a_2))) rfl (congrArg V.bool hg4)) ?_
    refine g_v2 (t1 := 10) (t2 := 13) (u1 := (.bool false)) (u2 := (.tup [])) (.bool false) (Eq.trans (b := .bool (decide (x_1 ≥ a_2))) rfl (congrArg V.bool hg4)) rfl rfl rfl ?_
    refine g_v1 (t := 14) (u := (.bool false)) (.bool false) rfl rfl rfl ?_
    refine g_end ?_
    refine e_end ?_
    refine renew [(6, (.bool false))] rfl ?_
    rintro s h6
    refine .nsq ?_
    refine .ret ?_
    have hr := Option.some.inj h
    subst hr
    exact rrA (res_tmp h6) rfl
end
def e56 (F : Nat) : Ent := ⟨56, dn3 (s_l1In F) (fun (r : Bool) => (Enc.enc (r : Bool))), 0, false⟩
theorem o56 {D : Den} {σ : Sig} {F : Nat} (hF : Fits2 Try.prog D σ) (H : H56 D σ F) : (e56 F).Ok Try.prog := by
  refine ⟨fun args r h => ?_, ⟨Try.f56, Try.func56, rfl, rfl⟩⟩
  obtain ⟨x0, x1, x2, y, rfl, hy, rfl⟩ := dn3_open h
  exact contract_run hF (by kernel_rfl) Try.func56 rfl c56 (show 3 ≤ Try.f56.ntmps by decide) (t56 H x0 x1 x2 _ ⟨rfl, rfl, rfl⟩ hy)
/- loop.example/g01109/spec.l2Before -/
def A57_1 : AC := (AC.seq (AC.reg [] [(I.mk (some 5) none false (X.v (A.idxA (O.t 2) (O.k (V.int IntKind.i64 (Int.ofNat 0))) 2 1))), (I.mk (some 6) none false (X.v (A.load Sh.s (O.t 5)))), (I.mk (some 7) none false (X.v (A.idxA (O.t 3) (O.k (V.int IntKind.i64 (Int.ofNat 0))) 2 1))), (I.mk (some 8) none false (X.v (A.load Sh.s (O.t 7)))), (I.mk (some 9) none false (X.v (A.bin BinOp.lss (O.t 6) (O.t 8)))), (I.mk (some 10) none false (X.v (A.mov (O.t 9)))), (I.mk (some 11) (some (10, false)) false (X.v (A.idxA (O.t 2) (O.k (V.int IntKind.i64 (Int.ofNat 0))) 2 1))), (I.mk (some 12) (some (10, false)) false (X.v (A.load Sh.s (O.t 11)))), (I.mk (some 13) (some (10, false)) false (X.v (A.idxA (O.t 3) (O.k (V.int IntKind.i64 (Int.ofNat 0))) 2 1))), (I.mk (some 14) (some (10, false)) false (X.v (A.load Sh.s (O.t 13)))), (I.mk (some 15) (some (10, false)) false (X.v (A.bin BinOp.eql (O.t 12) (O.t 14)))), (I.mk (some 16) (some (10, false)) false (X.v (A.mov (O.t 15)))), (I.mk (some 17) (some (16, true)) false (X.v (A.idxA (O.t 2) (O.k (V.int IntKind.i64 (Int.ofNat 1))) 2 1))), (I.mk (some 18) (some (16, true)) false (X.v (A.load Sh.s (O.t 17)))), (I.mk (some 19) (some (16, true)) false (X.v (A.idxA (O.t 3) (O.k (V.int IntKind.i64 (Int.ofNat 1))) 2 1))), (I.mk (some 20) (some (16, true)) false (X.v (A.load Sh.s (O.t 19)))), (I.mk (some 21) (some (16, true)) false (X.v (A.bin BinOp.lss (O.t 18) (O.t 20)))), (I.mk (some 22) (some (10, false)) false (X.v (A.pick (O.t 16) (O.t 21) (O.k (V.bool false))))), (I.mk (some 23) none false (X.v (A.pick (O.t 10) (O.k (V.bool true)) (O.t 22)))), (I.mk (some 4) none false (X.v (A.mov (O.t 23))))] []) AC.ret)
def A57 : AC := (AC.seq (AC.reg [.clr [2, 3]] [(I.mk (some 2) none false (X.box (O.t 0))), (I.mk (some 3) none false (X.box (O.t 1))), (I.mk (some 4) none false (X.v (A.mov (O.k (V.bool false)))))] []) A57_1)
def an57 : List An := [{ id := 0, pre := [.clr [2, 3]], ep := [] }]
theorem c57 : cC Try.prog Try.f57.ntmps an57 (Try.f57.body.getD .skip) = some A57 := by kernel_rfl
structure H57 (D : Den) (σ : Sig) (F : Nat) : Prop where
  mk ::
abbrev R57 (r : Bool) : (Nat → V) → Prop := RR Try.prog [.tmp 4] 0 false (Enc.enc (r : Bool))
section
variable {D : Den} {σ : Sig} {F : Nat} {r : Bool}
def s_l2Before (F : Nat) (a_1 : (Int × Int)) (b_2 : (Int × Int)) : Option Bool :=
  bif decide (a_1.1 < b_2.1) then
    some true
  else
    bif (a_1.1 == b_2.1) then
      some (decide (a_1.2 < b_2.2))
    else
      some false
theorem t57 (H : H57 D σ F) (a_1 : (Int × Int)) (b_2 : (Int × Int)) (s : Nat → V) (hs : Facts [(0, (.agg [(.int .i64 a_1.1), (.int .i64 a_1.2)])), (1, (.agg [(.int .i64 b_2.1), (.int .i64 b_2.2)]))] s) (h : s_l2Before F a_1 b_2 = some r) : Run D σ (R57 r) (.run A57 []) s := by
  unfold s_l2Before at h
  obtain ⟨h0, h1⟩ := hs
  refine .seq ?_
  refine run_reg ?_
  refine e_clr ?_
  refine e_end ?_
  refine g_box (.agg [(.int .i64 a_1.1), (.int .i64 a_1.2)]) (rd_of (keep_clear (s := s) (pk := [2, 3]) h0 rfl (map_agg (maps_cons rfl (maps_cons rfl maps_nil)))) rfl) (gone_clear (s := s) (pk := [2, 3]) (t := 2) rfl) rfl ?_
  refine g_box (.agg [(.int .i64 b_2.1), (.int .i64 b_2.2)]) (rd_of (keep_clear (s := s) (pk := [2, 3]) h1 rfl (map_agg (maps_cons rfl (maps_cons rfl maps_nil)))) rfl) (gone_clear (s := s) (pk := [2, 3]) (t := 3) rfl) rfl ?_
  refine g_v0 (.bool false) rfl rfl ?_
  refine g_end ?_
  refine e_end ?_
  refine renew [(2, (.ref (.bx 2) 0 [] (.agg [(.int .i64 a_1.1), (.int .i64 a_1.2)]))), (3, (.ref (.bx 3) 0 [] (.agg [(.int .i64 b_2.1), (.int .i64 b_2.2)]))), (4, (.bool false))] ⟨rfl, rfl, rfl⟩ ?_
  rintro s ⟨h2, h3, h4⟩
  refine .nsq ?_
  refine .seq ?_
  refine run_reg ?_
  refine e_end ?_
  refine g_v1 (t := 2) (u := (.ref (.bx 2) 0 [] (.agg [(.int .i64 a_1.1), (.int .i64 a_1.2)]))) (.ref (.bx 2) 0 [0] (.int .i64 a_1.1)) h2 rfl rfl ?_
  refine g_v1 (t := 5) (u := (.ref (.bx 2) 0 [0] (.int .i64 a_1.1))) (.int .i64 a_1.1) rfl rfl rfl ?_
  refine g_v1 (t := 3) (u := (.ref (.bx 3) 0 [] (.agg [(.int .i64 b_2.1), (.int .i64 b_2.2)]))) (.ref (.bx 3) 0 [0] (.int .i64 b_2.1)) h3 rfl rfl ?_
  refine g_v1 (t := 7) (u := (.ref (.bx 3) 0 [0] (.int .i64 b_2.1))) (.int .i64 b_2.1) rfl rfl rfl ?_
  refine g_v2 (t1 := 6) (t2 := 8) (u1 := (.int .i64 a_1.1)) (u2 := (.int .i64 b_2.1)) (.bool (decide (a_1.1 < b_2.1))) rfl rfl rfl rfl ?_
  refine g_v1 (t := 9) (u := (.bool (decide (a_1.1 < b_2.1)))) (.bool (decide (a_1.1 < b_2.1))) rfl rfl rfl ?_
  refine split_on (c := decide (a_1.1 < b_2.1)) h (fun hg6 h => ?_) (fun hg6 h => ?_)
  · refine g_no (Eq.trans (b := .bool (decide (a_1.1 < b_2.1))) rfl (congrArg V.bool hg6)) ?_
    refine g_no (Eq.trans (b := .bool (decide (a_1.1 < b_2.1))) rfl (congrArg V.bool hg6)) ?_
    refine g_no (Eq.trans (b := .bool (decide (a_1.1 < b_2.1))) rfl (congrArg V.bool hg6)) ?_
    refine g_no (Eq.trans (b := .bool (decide (a_1.1 < b_2.1))) rfl (congrArg V.bool hg6)) ?_
    refine g_no (Eq.trans (b := .bool (decide (a_1.1 < b_2.1))) rfl (congrArg V.bool hg6)) ?_
    refine g_no (Eq.trans (b := .bool (decide (a_1.1 < b_2.1))) rfl (congrArg V.bool hg6)) ?_
    refine g_skip rfl ?_
    refine g_skip rfl ?_
    refine g_skip rfl ?_
    refine g_skip rfl ?_
    refine g_skip rfl ?_
    refine g_no (Eq.trans (b := .bool (decide (a_1.1 < b_2.1))) rfl (congrArg V.bool hg6)) ?_
    refine g_v2 (t1 := 10) (t2 := 22) (u1 := (.bool true)) (u2 := (.tup [])) (.bool true) (Eq.trans (b := .bool (decide (a_1.1 < b_2.1))) rfl (congrArg V.bool hg6)) rfl rfl rfl ?_
    refine g_v1 (t := 23) (u := (.bool true)) (.bool true) rfl rfl rfl ?_
    refine g_end ?_
    refine e_end ?_
    refine renew [(4, (.bool true))] rfl ?_
    rintro s h4
    refine .nsq ?_
    refine .ret ?_
    have hr := Option.some.inj h
    subst hr
    exact rrA (res_tmp h4) rfl
  · refine g_yes (Eq.trans (b := .bool (decide (a_1.1 < b_2.1))) rfl (congrArg V.bool hg6)) (g_v1 (t := 2) (u := (.ref (.bx 2) 0 [] (.agg [(.int .i64 a_1.1), (.int .i64 a_1.2)]))) (.ref (.bx 2) 0 [0] (.int .i64 a_1.1)) h2 rfl rfl ?_)
    refine g_yes (Eq.trans (b := .bool (decide (a_1.1 < b_2.1))) rfl (congrArg V.bool hg6)) (g_v1 (t := 11) (u := (.ref (.bx 2) 0 [0] (.int .i64 a_1.1))) (.int .i64 a_1.1) rfl rfl rfl ?_)
    refine g_yes (Eq.trans (b := .bool (decide (a_1.1 < b_2.1))) rfl (congrArg V.bool hg6)) (g_v1 (t := 3) (u := (.ref (.bx 3) 0 [] (.agg [(.int .i64 b_2.1), (.int .i64 b_2.2)]))) (.ref (.bx 3) 0 [0] (.int .i64 b_2.1)) h3 rfl rfl ?_)
    refine g_yes (Eq.trans (b := .bool (decide (a_1.1 < b_2.1))) rfl (congrArg V.bool hg6)) (g_v1 (t := 13) (u := (.ref (.bx 3) 0 [0] (.int .i64 b_2.1))) (.int .i64 b_2.1) rfl rfl rfl ?_)
    refine g_yes (Eq.trans (b := .bool (decide (a_1.1 < b_2.1))) rfl (congrArg V.bool hg6)) (g_v2 (t1 := 12) (t2 := 14) (u1 := (.int .i64 a_1.1)) (u2 := (.int .i64 b_2.1)) (.bool (a_1.1 == b_2.1)) rfl rfl rfl rfl ?_)
    refine g_yes (Eq.trans (b := .bool (decide (a_1.1 < b_2.1))) rfl (congrArg V.bool hg6)) (g_v1 (t := 15) (u := (.bool (a_1.1 == b_2.1))) (.bool (a_1.1 == b_2.1)) rfl rfl rfl ?_)
    refine split_on (c := (a_1.1 == b_2.1)) h (fun hg12 h => ?_) (fun hg12 h => ?_)
    · refine g_yes (Eq.trans (b := .bool (a_1.1 == b_2.1)) rfl (congrArg V.bool hg12)) (g_v1 (t := 2) (u := (.ref (.bx 2) 0 [] (.agg [(.int .i64 a_1.1), (.int .i64 a_1.2)]))) (.ref (.bx 2) 0 [1] (.int .i64 a_1.2)) h2 rfl rfl ?_)
      refine g_yes (Eq.trans (b := .bool (a_1.1 == b_2.1)) rfl (congrArg V.bool hg12)) (g_v1 (t := 17) (u := (.ref (.bx 2) 0 [1] (.int .i64 a_1.2))) (.int .i64 a_1.2) rfl rfl rfl ?_)
      refine g_yes (Eq.trans (b := .bool (a_1.1 == b_2.1)) rfl (congrArg V.bool hg12)) (g_v1 (t := 3) (u := (.ref (.bx 3) 0 [] (.agg [(.int .i64 b_2.1), (.int .i64 b_2.2)]))) (.ref (.bx 3) 0 [1] (.int .i64 b_2.2)) h3 rfl rfl ?_)
      refine g_yes (Eq.trans (b := .bool (a_1.1 == b_2.1)) rfl (congrArg V.bool hg12)) (g_v1 (t := 19) (u := (.ref (.bx 3) 0 [1] (.int .i64 b_2.2))) (.int .i64 b_2.2) rfl rfl rfl ?_)
      refine g_yes (Eq.trans (b := .bool (a_1.1 == b_2.1)) rfl (congrArg V.bool hg12)) (g_v2 (t1 := 18) (t2 := 20) (u1 := (.int .i64 a_1.2)) (u2 := (.int .i64 b_2.2)) (.bool (decide (a_1.2 < b_2.2))) rfl rfl rfl rfl ?_)
      refine g_yes (Eq.trans (b := .bool (decide (a_1.1 < b_2.1))) rfl (congrArg V.bool hg6)) (g_v2 (t1 := 16) (t2 := 21) (u1 := (.bool true)) (u2 := (.bool (decide (a_1.2 < b_2.2)))) (.bool (decide (a_1.2 < b_2.2))) (Eq.trans (b := .bool (a_1.1 == b_2.1)) rfl (congrArg V.bool hg12)) rfl rfl rfl ?_)
      refine g_v2 (t1 := 10) (t2 := 22) (u1 := (.bool false)) (u2 := (.bool (decide (a_1.2 < b_2.2)))) (.bool (decide (a_1.2 < b_2.2))) (Eq.trans (b := .bool (decide (a_1.1 < b_2.1))) rfl (congrArg V.bool hg6)) rfl rfl rfl ?_
      refine g_v1 (t := 23) (u := (.bool (decide (a_1.2 < b_2.2)))) (.bool (decide (a_1.2 < b_2.2))) rfl rfl rfl ?_
      refine g_end ?_
      refine e_end ?_
      refine renew [(4, (.bool (decide (a_1.2 < b_2.2))))] rfl ?_
      rintro s h4
      refine .nsq ?_
      refine .ret ?_
      have hr := Option.some.inj h
      subst hr
      exact rrA (res_tmp h4) rfl
    · refine g_no (Eq.trans (b := .bool (a_1.1 == b_2.1)) rfl (congrArg V.bool hg12)) ?_
      refine g_no (Eq.trans (b := .bool (a_1.1 == b_2.1)) rfl (congrArg V.bool hg12)) ?_
      refine g_no (Eq.trans (b := .bool (a_1.1 == b_2.1)) rfl (congrArg V.bool hg12)) ?_
      refine g_no (Eq.trans (b := .bool (a_1.1 == b_2.1)) rfl (congrArg V.bool hg12)) ?_
      refine g_no (Eq.trans (b := .bool (a_1.1 == b_2.1)) rfl (congrArg V.bool hg12)) ?_
      refine g_yes (Eq.trans (b := .bool (decide (a_1.1 < b_2.1))) rfl (congrArg V.bool hg6)) (g_v2 (t1 := 16) (t2 := 21) (u1 := (.bool false)) (u2 := (.tup [])) (.bool false) (Eq.trans (b := .bool (a_1.1 == b_2.1)) rfl (congrArg V.bool hg12)) rfl rfl rfl ?_)
      refine g_v2 (t1 := 10) (t2 := 22) (u1 := (.bool false)) (u2 := (.bool false)) (.bool false) (Eq.trans (b := .bool (decide (a_1.1 < b_2.1))) rfl (congrArg V.bool hg6)) rfl rfl rfl ?_
      refine g_v1 (t := 23) (u := (.bool false)) (.bool false) rfl rfl rfl ?_
      refine g_end ?_
      refine e_end ?_
      refine renew [(4, (.bool false))] rfl ?_
      rintro s h4
      refine .nsq ?_
      refine .ret ?_
      have hr := Option.some.inj h
      subst hr
      exact rrA (res_tmp h4) rfl
end
def e57 (F : Nat) : Ent := ⟨57, dn2 (s_l2Before F) (fun (r : Bool) => (Enc.enc (r : Bool))), 0, false⟩
theorem o57 {D : Den} {σ : Sig} {F : Nat} (hF : Fits2 Try.prog D σ) (H : H57 D σ F) : (e57 F).Ok Try.prog := by
  refine ⟨fun args r h => ?_, ⟨Try.f57, Try.func57, rfl, rfl⟩⟩
  obtain ⟨x0, x1, y, rfl, hy, rfl⟩ := dn2_open h
  exact contract_run hF (by kernel_rfl) Try.func57 rfl c57 (show 2 ≤ Try.f57.ntmps by decide) (t57 H x0 x1 _ ⟨rfl, rfl⟩ hy)
/- loop.example/g01109/spec.l2Good -/
def A30_2 : AC := (AC.cond (O.t 9) AC.skip (AC.exit 0))
def A30_5 : AC := (AC.cond (O.t 54) (AC.seq (AC.reg [] [(I.mk (some 2) none false (X.v (A.mov (O.k (V.bool false)))))] []) AC.ret) AC.skip)
def A30_4 : AC := (AC.seq (AC.reg [] [(I.mk (some 17) none false (X.v (A.idxA (O.t 4) (O.k (V.int IntKind.i64 (Int.ofNat 0))) 2 1))), (I.mk (some 18) none false (X.v (A.load Sh.s (O.t 17)))), (I.mk (some 19) none false (X.v (A.fld (O.t 1) 0 0))), (I.mk (some 20) none false (X.v (A.load Sh.s (O.t 19)))), (I.mk (some 21) none false (X.v (A.bin BinOp.sub (O.t 20) (O.k (V.int IntKind.i64 (Int.ofNat 1)))))), (I.mk (some 22) none false (X.call (O.k (V.fn 56 [] [])) [(O.t 18), (O.k (V.int IntKind.i64 (Int.ofNat 0))), (O.t 21)])), (I.mk (some 23) none false (X.v (A.un UnOp.not (O.t 22)))), (I.mk (some 24) none false (X.v (A.mov (O.t 23)))), (I.mk (some 25) (some (24, false)) false (X.v (A.idxA (O.t 4) (O.k (V.int IntKind.i64 (Int.ofNat 1))) 2 1))), (I.mk (some 26) (some (24, false)) false (X.v (A.load Sh.s (O.t 25)))), (I.mk (some 27) (some (24, false)) false (X.v (A.fld (O.t 1) 0 0))), (I.mk (some 28) (some (24, false)) false (X.v (A.load Sh.s (O.t 27)))), (I.mk (some 29) (some (24, false)) false (X.v (A.bin BinOp.sub (O.t 28) (O.k (V.int IntKind.i64 (Int.ofNat 1)))))), (I.mk (some 30) (some (24, false)) false (X.call (O.k (V.fn 56 [] [])) [(O.t 26), (O.k (V.int IntKind.i64 (Int.ofNat 0))), (O.t 29)])), (I.mk (some 31) (some (24, false)) false (X.v (A.un UnOp.not (O.t 30)))), (I.mk (some 32) none false (X.v (A.pick (O.t 24) (O.k (V.bool true)) (O.t 31)))), (I.mk (some 33) none false (X.v (A.mov (O.t 32)))), (I.mk (some 34) (some (33, false)) false (X.v (A.idxA (O.t 4) (O.k (V.int IntKind.i64 (Int.ofNat 0))) 2 1))), (I.mk (some 35) (some (33, false)) false (X.v (A.load Sh.s (O.t 34)))), (I.mk (some 36) (some (33, false)) false (X.v (A.idxA (O.t 4) (O.k (V.int IntKind.i64 (Int.ofNat 1))) 2 1))), (I.mk (some 37) (some (33, false)) false (X.v (A.load Sh.s (O.t 36)))), (I.mk (some 38) (some (33, false)) false (X.v (A.bin BinOp.geq (O.t 35) (O.t 37)))), (I.mk (some 39) none false (X.v (A.pick (O.t 33) (O.k (V.bool true)) (O.t 38)))), (I.mk (some 40) none false (X.v (A.mov (O.t 39)))), (I.mk (some 41) (some (40, false)) false (X.v (A.mov (O.t 3)))), (I.mk (some 42) (some (40, false)) false (X.v (A.bin BinOp.gtr (O.t 41) (O.k (V.int IntKind.i64 (Int.ofNat 0)))))), (I.mk (some 43) (some (40, false)) false (X.v (A.mov (O.t 42)))), (I.mk (some 44) (some (43, true)) false (X.v (A.fld (O.t 1) 1 1))), (I.mk (some 45) (some (43, true)) false (X.v (A.load Sh.p (O.t 44)))), (I.mk (some 46) (some (43, true)) false (X.v (A.mov (O.t 3)))), (I.mk (some 47) (some (43, true)) false (X.v (A.bin BinOp.sub (O.t 46) (O.k (V.int IntKind.i64 (Int.ofNat 1)))))), (I.mk (some 48) (some (43, true)) false (X.v (A.idx (O.t 45) (O.t 47) 2))), (I.mk (some 49) (some (43, true)) false (X.v (A.load (Sh.ag [Sh.s, Sh.s]) (O.t 48)))), (I.mk (some 50) (some (43, true)) false (X.v (A.load (Sh.ag [Sh.s, Sh.s]) (O.t 4)))), (I.mk (some 51) (some (43, true)) false (X.call (O.k (V.fn 57 [] [])) [(O.t 49), (O.t 50)])), (I.mk (some 52) (some (43, true)) false (X.v (A.un UnOp.not (O.t 51)))), (I.mk (some 53) (some (40, false)) false (X.v (A.pick (O.t 43) (O.t 52) (O.k (V.bool false))))), (I.mk (some 54) none false (X.v (A.pick (O.t 40) (O.k (V.bool true)) (O.t 53))))] []) A30_5)
def A30_6 : AC := (AC.reg [] [(I.mk (some 10) none false (X.v (A.mov (O.t 3)))), (I.mk (some 11) none false (X.v (A.bin BinOp.add (O.t 10) (O.k (V.int IntKind.i64 (Int.ofNat 1)))))), (I.mk (some 3) none false (X.v (A.mov (O.t 11))))] [])
def A30_3 : AC := (AC.seq (AC.block 1 (AC.seq (AC.reg [.clr [4]] [(I.mk (some 12) none false (X.v (A.fld (O.t 1) 1 1))), (I.mk (some 13) none false (X.v (A.load Sh.p (O.t 12)))), (I.mk (some 14) none false (X.v (A.mov (O.t 3)))), (I.mk (some 15) none false (X.v (A.idx (O.t 13) (O.t 14) 2))), (I.mk (some 16) none false (X.v (A.load (Sh.ag [Sh.s, Sh.s]) (O.t 15)))), (I.mk (some 4) none false (X.alloc (V.agg [(V.int IntKind.i64 (Int.ofNat 0)), (V.int IntKind.i64 (Int.ofNat 0))]))), (I.mk none none false (X.store (Sh.ag [Sh.s, Sh.s]) (O.t 4) (O.t 16)))] []) A30_4)) A30_6)
def A30_1 : AC := (AC.seq (AC.seq (AC.reg [] [(I.mk (some 5) none false (X.v (A.mov (O.t 3)))), (I.mk (some 6) none false (X.v (A.fld (O.t 1) 1 1))), (I.mk (some 7) none false (X.v (A.load Sh.p (O.t 6)))), (I.mk (some 8) none false (X.v (A.len (O.t 7)))), (I.mk (some 9) none false (X.v (A.bin BinOp.lss (O.t 5) (O.t 8))))] []) A30_2) A30_3)
def A30_7 : AC := (AC.seq (AC.reg [] [(I.mk (some 55) none false (X.v (A.fld (O.t 1) 0 0))), (I.mk (some 56) none false (X.v (A.load Sh.s (O.t 55)))), (I.mk (some 57) none false (X.call (O.k (V.fn 56 [] [])) [(O.t 56), (O.k (V.int IntKind.i64 (Int.ofNat 0))), (O.k (V.int IntKind.i64 (Int.ofNat 8)))])), (I.mk (some 2) none false (X.v (A.mov (O.t 57))))] []) AC.ret)
def A30_9 : AC := (AC.block 0 (AC.loop A30_1))
def A30_8 : AC := (AC.seq (AC.seq (AC.reg [] [(I.mk (some 3) none false (X.v (A.mov (O.k (V.int IntKind.i64 (Int.ofNat 0))))))] []) A30_9) A30_7)
def A30 : AC := (AC.seq (AC.reg [.clr [1]] [(I.mk (some 1) none false (X.box (O.t 0))), (I.mk (some 2) none false (X.v (A.mov (O.k (V.bool false)))))] []) A30_8)
def an30 : List An := [{ id := 0, pre := [.clr [1]], ep := [] }, { id := 4, pre := [.clr [4]], ep := [] }]
theorem c30 : cC Try.prog Try.f30.ntmps an30 (Try.f30.body.getD .skip) = some A30 := by kernel_rfl
structure H30 (D : Den) (σ : Sig) (F : Nat) : Prop where
  c56 : ∀ x0 x1 x2 r, s_l1In F x0 x1 x2 = some r → D 56 [Enc.enc x0, Enc.enc x1, Enc.enc x2] = some (Enc.enc (r : Bool))
  g56 : σ 56 = some (0, false)
  c57 : ∀ x0 x1 r, s_l2Before F x0 x1 = some r → D 57 [Enc.enc x0, Enc.enc x1] = some (Enc.enc (r : Bool))
  g57 : σ 57 = some (0, false)
abbrev R30 (r : Bool) : (Nat → V) → Prop := RR Try.prog [.tmp 2] 0 false (Enc.enc (r : Bool))
section
variable {D : Den} {σ : Sig} {F : Nat} {r : Bool}
def s_l2Good_j1 (F : Nat) (g_1 : (Int × (List (Int × Int)))) (i_12 : Int) (c1 : Int → Option Bool) (t54_28 : Bool) : Option Bool :=
  bif t54_28 then
    some false
  else
    c1 (w64 (i_12 + 1))
theorem t_f30_j1 (H : H30 D σ F) (g_1 : (Int × (List (Int × Int)))) (i_12 : Int) (c1 : Int → Option Bool) (Hc1 : ∀ (i_12 : Int) (s : Nat → V), Facts [(1, (.ref (.bx 1) 0 [] (.agg [(.int .i64 g_1.1), (Enc.enc (g_1.2 : List (Int × Int)))]))), (2, (.bool false)), (3, (.int .i64 i_12))] s → c1 i_12 = some r → Run D σ (R30 r) (.run A30_1 [.lp A30_1, .bk 0, .sq A30_7]) s) (t54_28 : Bool) (s : Nat → V) (hs : Facts [(1, (.ref (.bx 1) 0 [] (.agg [(.int .i64 g_1.1), (Enc.enc (g_1.2 : List (Int × Int)))]))), (2, (.bool false)), (3, (.int .i64 i_12)), (54, (.bool t54_28))] s) (h : s_l2Good_j1 F g_1 i_12 c1 t54_28 = some r) : Run D σ (R30 r) (.nrm [.sq A30_5, .bk 1, .sq A30_6, .lp A30_1, .bk 0, .sq A30_7]) s := by
  unfold s_l2Good_j1 at h
  obtain ⟨h1, h2, h3, h54⟩ := hs
  refine .nsq ?_
  refine run_cond (t := t54_28) h54 h (fun h => ?_) (fun h => ?_)
  · refine .seq ?_
    refine run_reg ?_
    refine e_end ?_
    refine g_v0 (.bool false) rfl rfl ?_
    refine g_end ?_
    refine e_end ?_
    refine renew [(1, (.ref (.bx 1) 0 [] (.agg [(.int .i64 g_1.1), (Enc.enc (g_1.2 : List (Int × Int)))]))), (2, (.bool false)), (3, (.int .i64 i_12))] ⟨h1, rfl, h3⟩ ?_
    rintro s ⟨h1, h2, h3⟩
    refine .nsq ?_
    refine .ret ?_
    have hr := Option.some.inj h
    subst hr
    exact rrA (res_tmp h2) rfl
  · refine .skip ?_
    refine .nbk ?_
    refine .nsq ?_
    refine run_reg ?_
    refine e_end ?_
    refine g_v1 (t := 3) (u := (.int .i64 i_12)) (.int .i64 i_12) h3 rfl rfl ?_
    refine g_v1 (t := 10) (u := (.int .i64 i_12)) (.int .i64 (w64 (i_12 + 1))) rfl rfl rfl ?_
    refine g_v1 (t := 11) (u := (.int .i64 (w64 (i_12 + 1)))) (.int .i64 (w64 (i_12 + 1))) rfl rfl rfl ?_
    refine g_end ?_
    refine e_end ?_
    refine renew [(1, (.ref (.bx 1) 0 [] (.agg [(.int .i64 g_1.1), (Enc.enc (g_1.2 : List (Int × Int)))]))), (2, (.bool false)), (3, (.int .i64 (w64 (i_12 + 1))))] ⟨h1, h2, rfl⟩ ?_
    rintro s ⟨h1, h2, h3⟩
    refine .nlp ?_
    exact Hc1 (w64 (i_12 + 1)) _ ⟨h1, h2, h3⟩ h
def s_l2Good_l1 (F : Nat) (g_1 : (Int × (List (Int × Int))))  : Nat → Int → Option Bool
  | 0, _ => none
  | k + 1, i_12 =>
    bif decide (i_12 < (g_1.2.length : Int)) then
      (idx g_1.2 i_12).bind fun e_23 =>
      (s_l1In F e_23.1 0 (w64 (g_1.1 - 1))).bind fun r_29 =>
      bif (!r_29) then
        s_l2Good_j1 F g_1 i_12 (s_l2Good_l1 F g_1 k) true
      else
        (s_l1In F e_23.2 0 (w64 (g_1.1 - 1))).bind fun r_30 =>
        bif (!r_30) then
          s_l2Good_j1 F g_1 i_12 (s_l2Good_l1 F g_1 k) true
        else
          bif decide (e_23.1 ≥ e_23.2) then
            s_l2Good_j1 F g_1 i_12 (s_l2Good_l1 F g_1 k) true
          else
            bif decide (i_12 > 0) then
              (idx g_1.2 (w64 (i_12 - 1))).bind fun e_31 =>
              (s_l2Before F e_31 e_23).bind fun r_32 =>
              s_l2Good_j1 F g_1 i_12 (s_l2Good_l1 F g_1 k) (!r_32)
            else
              s_l2Good_j1 F g_1 i_12 (s_l2Good_l1 F g_1 k) false
    else
      (s_l1In F g_1.1 0 8).bind fun r_33 =>
      some r_33
theorem t_f30_l1 (H : H30 D σ F) (g_1 : (Int × (List (Int × Int))))  : ∀ (k : Nat) (i_12 : Int) (s : Nat → V), Facts [(1, (.ref (.bx 1) 0 [] (.agg [(.int .i64 g_1.1), (Enc.enc (g_1.2 : List (Int × Int)))]))), (2, (.bool false)), (3, (.int .i64 i_12))] s → s_l2Good_l1 F g_1 k i_12 = some r → Run D σ (R30 r) (.run A30_1 [.lp A30_1, .bk 0, .sq A30_7]) s := by
  intro k
  induction k with
  | zero => intro i_12 s _ h; exact nomatch (h : (none : Option _) = some r)
  | succ k ih =>
    intro i_12 s hs h
    rw [s_l2Good_l1] at h
    obtain ⟨h1, h2, h3⟩ := hs
    refine .seq ?_
    refine .seq ?_
    refine run_reg ?_
    refine e_end ?_
    refine g_v1 (t := 3) (u := (.int .i64 i_12)) (.int .i64 i_12) h3 rfl rfl ?_
    refine g_v1 (t := 1) (u := (.ref (.bx 1) 0 [] (.agg [(.int .i64 g_1.1), (Enc.enc (g_1.2 : List (Int × Int)))]))) (.ref (.bx 1) 0 [1] (Enc.enc (g_1.2 : List (Int × Int)))) h1 rfl rfl ?_
    refine g_v1 (t := 6) (u := (.ref (.bx 1) 0 [1] (Enc.enc (g_1.2 : List (Int × Int))))) (Enc.enc (g_1.2 : List (Int × Int))) rfl rfl rfl ?_
    refine g_v (.int .i64 (g_1.2.length : Int)) (ev_len (xs := g_1.2) rfl) ?_
    refine g_v2 (t1 := 5) (t2 := 8) (u1 := (.int .i64 i_12)) (u2 := (.int .i64 (g_1.2.length : Int))) (.bool (decide (i_12 < (g_1.2.length : Int)))) rfl rfl rfl rfl ?_
    refine g_end ?_
    refine e_end ?_
    refine renew [(1, (.ref (.bx 1) 0 [] (.agg [(.int .i64 g_1.1), (Enc.enc (g_1.2 : List (Int × Int)))]))), (2, (.bool false)), (3, (.int .i64 i_12)), (9, (.bool (decide (i_12 < (g_1.2.length : Int)))))] ⟨h1, h2, h3, rfl⟩ ?_
    rintro s ⟨h1, h2, h3, h9⟩
    refine .nsq ?_
    refine run_cond (t := decide (i_12 < (g_1.2.length : Int))) h9 h (fun h => ?_) (fun h => ?_)
    · refine .skip ?_
      refine .nsq ?_
      refine .seq ?_
      refine .block ?_
      refine .seq ?_
      refine run_reg ?_
      refine e_clr ?_
      refine e_end ?_
      refine g_v1 (t := 1) (u := (.ref (.bx 1) 0 [] (.agg [(.int .i64 g_1.1), (Enc.enc (g_1.2 : List (Int × Int)))]))) (.ref (.bx 1) 0 [1] (Enc.enc (g_1.2 : List (Int × Int)))) (keep_clear (s := s) (pk := [4]) h1 rfl (map_bx rfl (map_agg (maps_cons rfl (maps_cons (Enc.map_enc _ (g_1.2 : List (Int × Int))) maps_nil))))) rfl rfl ?_
      refine g_v1 (t := 12) (u := (.ref (.bx 1) 0 [1] (Enc.enc (g_1.2 : List (Int × Int))))) (Enc.enc (g_1.2 : List (Int × Int))) rfl rfl rfl ?_
      refine g_v1 (t := 3) (u := (.int .i64 i_12)) (.int .i64 i_12) (keep_clear (s := s) (pk := [4]) h3 rfl rfl) rfl rfl ?_
      obtain ⟨e_23, E_e_23, h⟩ := bind_some h
      refine g_v (.ref .sh 0 [] (.agg [(.int .i64 e_23.1), (.int .i64 e_23.2)])) (ev_idx (t := .sh) (lo := 0) (xs := g_1.2) rfl rfl E_e_23 rfl rfl) ?_
      refine g_v1 (t := 15) (u := (.ref .sh 0 [] (.agg [(.int .i64 e_23.1), (.int .i64 e_23.2)]))) (.agg [(.int .i64 e_23.1), (.int .i64 e_23.2)]) rfl rfl rfl ?_
      refine g_alloc (gone_clear (s := s) (pk := [4]) (t := 4) rfl) ?_
      refine g_store (.agg [(.int .i64 e_23.1), (.int .i64 e_23.2)]) (rd_of rfl rfl) (rd_of rfl rfl) (by refine ⟨by decide, by decide, rfl, rfl, rfl, ?_⟩; first | rfl | simp [V.toks, V.tokss, Enc.toks_enc]) ?_
      refine g_end ?_
      refine e_end ?_
      refine renew [(1, (.ref (.bx 1) 0 [] (.agg [(.int .i64 g_1.1), (Enc.enc (g_1.2 : List (Int × Int)))]))), (2, (.bool false)), (3, (.int .i64 i_12)), (4, (.ref (.bx 4) 0 [] (.agg [(.int .i64 e_23.1), (.int .i64 e_23.2)])))] ⟨(keep_mut (keep_clear (s := s) (pk := [4]) h1 rfl (map_bx rfl (map_agg (maps_cons rfl (maps_cons (Enc.map_enc _ (g_1.2 : List (Int × Int))) maps_nil))))) (mut_ref_ne rfl rfl (mut_agg (muts_cons rfl (muts_cons (Enc.mut_enc _ _ _ _ (g_1.2 : List (Int × Int))) rfl))))), (keep_mut (keep_clear (s := s) (pk := [4]) h2 rfl rfl) rfl), (keep_mut (keep_clear (s := s) (pk := [4]) h3 rfl rfl) rfl), (keep_mut rfl rfl)⟩ ?_
      rintro s ⟨h1, h2, h3, h4⟩
      refine .nsq ?_
      refine .seq ?_
      refine run_reg ?_
      refine e_end ?_
      refine g_v1 (t := 4) (u := (.ref (.bx 4) 0 [] (.agg [(.int .i64 e_23.1), (.int .i64 e_23.2)]))) (.ref (.bx 4) 0 [0] (.int .i64 e_23.1)) h4 rfl rfl ?_
      refine g_v1 (t := 17) (u := (.ref (.bx 4) 0 [0] (.int .i64 e_23.1))) (.int .i64 e_23.1) rfl rfl rfl ?_
      refine g_v1 (t := 1) (u := (.ref (.bx 1) 0 [] (.agg [(.int .i64 g_1.1), (Enc.enc (g_1.2 : List (Int × Int)))]))) (.ref (.bx 1) 0 [0] (.int .i64 g_1.1)) h1 rfl rfl ?_
      refine g_v1 (t := 19) (u := (.ref (.bx 1) 0 [0] (.int .i64 g_1.1))) (.int .i64 g_1.1) rfl rfl rfl ?_
      refine g_v1 (t := 20) (u := (.int .i64 g_1.1)) (.int .i64 (w64 (g_1.1 - 1))) rfl rfl rfl ?_
      obtain ⟨r_29, E_r_29, h⟩ := bind_some h
      refine g_call (m := 0) (al := false) (r := (Enc.enc (r_29 : Bool))) [Enc.enc (e_23.1 : Int), Enc.enc (0 : Int), Enc.enc (w64 (g_1.1 - 1) : Int)] (ta_cons (v := (.int .i64 e_23.1)) rfl rfl rfl (ta_cons (v := (.int .i64 0)) rfl rfl rfl (ta_cons (v := (.int .i64 (w64 (g_1.1 - 1)))) rfl rfl rfl ta_nil))) (H.c56 _ _ _ _ E_r_29) H.g56 rfl rfl rfl rfl ?_
      refine g_v1 (t := 22) (u := (.bool r_29)) (.bool (!r_29)) rfl rfl rfl ?_
      refine g_v1 (t := 23) (u := (.bool (!r_29))) (.bool (!r_29)) rfl rfl rfl ?_
      refine split_on (c := (!r_29)) h (fun hg8 h => ?_) (fun hg8 h => ?_)
      · refine g_no (Eq.trans (b := .bool (!r_29)) rfl (congrArg V.bool hg8)) ?_
        refine g_no (Eq.trans (b := .bool (!r_29)) rfl (congrArg V.bool hg8)) ?_
        refine g_no (Eq.trans (b := .bool (!r_29)) rfl (congrArg V.bool hg8)) ?_
        refine g_no (Eq.trans (b := .bool (!r_29)) rfl (congrArg V.bool hg8)) ?_
        refine g_no (Eq.trans (b := .bool (!r_29)) rfl (congrArg V.bool hg8)) ?_
        refine g_no (Eq.trans (b := .bool (!r_29)) rfl (congrArg V.bool hg8)) ?_
        refine g_no (Eq.trans (b := .bool (!r_29)) rfl (congrArg V.bool hg8)) ?_
        refine g_v2 (t1 := 24) (t2 := 31) (u1 := (.bool true)) (u2 := (.tup [])) (.bool true) (Eq.trans (b := .bool (!r_29)) rfl (congrArg V.bool hg8)) rfl rfl rfl ?_
        refine g_v1 (t := 32) (u := (.bool true)) (.bool true) rfl rfl rfl ?_
        refine g_no rfl ?_
        refine g_no rfl ?_
        refine g_no rfl ?_
        refine g_no rfl ?_
        refine g_no rfl ?_
        refine g_v2 (t1 := 33) (t2 := 38) (u1 := (.bool true)) (u2 := (.tup [])) (.bool true) rfl rfl rfl rfl ?_
        refine g_v1 (t := 39) (u := (.bool true)) (.bool true) rfl rfl rfl ?_
        refine g_no rfl ?_
        refine g_no rfl ?_
        refine g_no rfl ?_
        refine g_skip rfl ?_
        refine g_skip rfl ?_
        refine g_skip rfl ?_
        refine g_skip rfl ?_
        refine g_skip rfl ?_
        refine g_skip rfl ?_
        refine g_skip rfl ?_
        refine g_skip rfl ?_
        refine g_skip rfl ?_
        refine g_no rfl ?_
        refine g_v2 (t1 := 40) (t2 := 53) (u1 := (.bool true)) (u2 := (.tup [])) (.bool true) rfl rfl rfl rfl ?_
        refine g_end ?_
        refine e_end ?_
        refine renew [(1, (.ref (.bx 1) 0 [] (.agg [(.int .i64 g_1.1), (Enc.enc (g_1.2 : List (Int × Int)))]))), (2, (.bool false)), (3, (.int .i64 i_12)), (54, (.bool true))] ⟨h1, h2, h3, rfl⟩ ?_
        rintro s ⟨h1, h2, h3, h54⟩
        exact t_f30_j1 H g_1 i_12 (s_l2Good_l1 F g_1 k) ih true _ ⟨h1, h2, h3, h54⟩ h
      · refine g_yes (Eq.trans (b := .bool (!r_29)) rfl (congrArg V.bool hg8)) (g_v1 (t := 4) (u := (.ref (.bx 4) 0 [] (.agg [(.int .i64 e_23.1), (.int .i64 e_23.2)]))) (.ref (.bx 4) 0 [1] (.int .i64 e_23.2)) h4 rfl rfl ?_)
        refine g_yes (Eq.trans (b := .bool (!r_29)) rfl (congrArg V.bool hg8)) (g_v1 (t := 25) (u := (.ref (.bx 4) 0 [1] (.int .i64 e_23.2))) (.int .i64 e_23.2) rfl rfl rfl ?_)
        refine g_yes (Eq.trans (b := .bool (!r_29)) rfl (congrArg V.bool hg8)) (g_v1 (t := 1) (u := (.ref (.bx 1) 0 [] (.agg [(.int .i64 g_1.1), (Enc.enc (g_1.2 : List (Int × Int)))]))) (.ref (.bx 1) 0 [0] (.int .i64 g_1.1)) h1 rfl rfl ?_)
        refine g_yes (Eq.trans (b := .bool (!r_29)) rfl (congrArg V.bool hg8)) (g_v1 (t := 27) (u := (.ref (.bx 1) 0 [0] (.int .i64 g_1.1))) (.int .i64 g_1.1) rfl rfl rfl ?_)
        refine g_yes (Eq.trans (b := .bool (!r_29)) rfl (congrArg V.bool hg8)) (g_v1 (t := 28) (u := (.int .i64 g_1.1)) (.int .i64 (w64 (g_1.1 - 1))) rfl rfl rfl ?_)
        obtain ⟨r_30, E_r_30, h⟩ := bind_some h
        refine g_yes (Eq.trans (b := .bool (!r_29)) rfl (congrArg V.bool hg8)) (g_call (m := 0) (al := false) (r := (Enc.enc (r_30 : Bool))) [Enc.enc (e_23.2 : Int), Enc.enc (0 : Int), Enc.enc (w64 (g_1.1 - 1) : Int)] (ta_cons (v := (.int .i64 e_23.2)) rfl rfl rfl (ta_cons (v := (.int .i64 0)) rfl rfl rfl (ta_cons (v := (.int .i64 (w64 (g_1.1 - 1)))) rfl rfl rfl ta_nil))) (H.c56 _ _ _ _ E_r_30) H.g56 rfl rfl rfl rfl ?_)
        refine g_yes (Eq.trans (b := .bool (!r_29)) rfl (congrArg V.bool hg8)) (g_v1 (t := 30) (u := (.bool r_30)) (.bool (!r_30)) rfl rfl rfl ?_)
        refine g_v2 (t1 := 24) (t2 := 31) (u1 := (.bool false)) (u2 := (.bool (!r_30))) (.bool (!r_30)) (Eq.trans (b := .bool (!r_29)) rfl (congrArg V.bool hg8)) rfl rfl rfl ?_
        refine g_v1 (t := 32) (u := (.bool (!r_30))) (.bool (!r_30)) rfl rfl rfl ?_
        refine split_on (c := (!r_30)) h (fun hg17 h => ?_) (fun hg17 h => ?_)
        · refine g_no (Eq.trans (b := .bool (!r_30)) rfl (congrArg V.bool hg17)) ?_
          refine g_no (Eq.trans (b := .bool (!r_30)) rfl (congrArg V.bool hg17)) ?_
          refine g_no (Eq.trans (b := .bool (!r_30)) rfl (congrArg V.bool hg17)) ?_
          refine g_no (Eq.trans (b := .bool (!r_30)) rfl (congrArg V.bool hg17)) ?_
          refine g_no (Eq.trans (b := .bool (!r_30)) rfl (congrArg V.bool hg17)) ?_
          refine g_v2 (t1 := 33) (t2 := 38) (u1 := (.bool true)) (u2 := (.tup [])) (.bool true) (Eq.trans (b := .bool (!r_30)) rfl (congrArg V.bool hg17)) rfl rfl rfl ?_
          refine g_v1 (t := 39) (u := (.bool true)) (.bool true) rfl rfl rfl ?_
          refine g_no rfl ?_
          refine g_no rfl ?_
          refine g_no rfl ?_
          refine g_skip rfl ?_
          refine g_skip rfl ?_
          refine g_skip rfl ?_
          refine g_skip rfl ?_
          refine g_skip rfl ?_
          refine g_skip rfl ?_
          refine g_skip rfl ?_
          refine g_skip rfl ?_
          refine g_skip rfl ?_
          refine g_no rfl ?_
          refine g_v2 (t1 := 40) (t2 := 53) (u1 := (.bool true)) (u2 := (.tup [])) (.bool true) rfl rfl rfl rfl ?_
          refine g_end ?_
          refine e_end ?_
          refine renew [(1, (.ref (.bx 1) 0 [] (.agg [(.int .i64 g_1.1), (Enc.enc (g_1.2 : List (Int × Int)))]))), (2, (.bool false)), (3, (.int .i64 i_12)), (54, (.bool true))] ⟨h1, h2, h3, rfl⟩ ?_
          rintro s ⟨h1, h2, h3, h54⟩
          exact t_f30_j1 H g_1 i_12 (s_l2Good_l1 F g_1 k) ih true _ ⟨h1, h2, h3, h54⟩ h
        · refine g_yes (Eq.trans (b := .bool (!r_30)) rfl (congrArg V.bool hg17)) (g_v1 (t := 4) (u := (.ref (.bx 4) 0 [] (.agg [(.int .i64 e_23.1), (.int .i64 e_23.2)]))) (.ref (.bx 4) 0 [0] (.int .i64 e_23.1)) h4 rfl rfl ?_)
          refine g_yes (Eq.trans (b := .bool (!r_30)) rfl (congrArg V.bool hg17)) (g_v1 (t := 34) (u := (.ref (.bx 4) 0 [0] (.int .i64 e_23.1))) (.int .i64 e_23.1) rfl rfl rfl ?_)
          refine g_yes (Eq.trans (b := .bool (!r_30)) rfl (congrArg V.bool hg17)) (g_v1 (t := 4) (u := (.ref (.bx 4) 0 [] (.agg [(.int .i64 e_23.1), (.int .i64 e_23.2)]))) (.ref (.bx 4) 0 [1] (.int .i64 e_23.2)) h4 rfl rfl ?_)
          refine g_yes (Eq.trans (b := .bool (!r_30)) rfl (congrArg V.bool hg17)) (g_v1 (t := 36) (u := (.ref (.bx 4) 0 [1] (.int .i64 e_23.2))) (.int .i64 e_23.2) rfl rfl rfl ?_)
          refine g_yes (Eq.trans (b := .bool (!r_30)) rfl (congrArg V.bool hg17)) (g_v2 (t1 := 35) (t2 := 37) (u1 := (.int .i64 e_23.1)) (u2 := (.int .i64 e_23.2)) (.bool (decide (e_23.1 ≥ e_23.2))) rfl rfl rfl rfl ?_)
          refine g_v2 (t1 := 33) (t2 := 38) (u1 := (.bool false)) (u2 := (.bool (decide (e_23.1 ≥ e_23.2)))) (.bool (decide (e_23.1 ≥ e_23.2))) (Eq.trans (b := .bool (!r_30)) rfl (congrArg V.bool hg17)) rfl rfl rfl ?_
          refine g_v1 (t := 39) (u := (.bool (decide (e_23.1 ≥ e_23.2)))) (.bool (decide (e_23.1 ≥ e_23.2))) rfl rfl rfl ?_
          refine split_on (c := decide (e_23.1 ≥ e_23.2)) h (fun hg24 h => ?_) (fun hg24 h => ?_)
          · refine g_no (Eq.trans (b := .bool (decide (e_23.1 ≥ e_23.2))) rfl (congrArg V.bool hg24)) ?_
            refine g_no (Eq.trans (b := .bool (decide (e_23.1 ≥ e_23.2))) rfl (congrArg V.bool hg24)) ?_
            refine g_no (Eq.trans (b := .bool (decide (e_23.1 ≥ e_23.2))) rfl (congrArg V.bool hg24)) ?_
            refine g_skip rfl ?_
            refine g_skip rfl ?_
            refine g_skip rfl ?_
            refine g_skip rfl ?_
            refine g_skip rfl ?_
            refine g_skip rfl ?_
            refine g_skip rfl ?_
            refine g_skip rfl ?_
            refine g_skip rfl ?_
            refine g_no (Eq.trans (b := .bool (decide (e_23.1 ≥ e_23.2))) rfl (congrArg V.bool hg24)) ?_
            refine g_v2 (t1 := 40) (t2 := 53) (u1 := (.bool true)) (u2 := (.tup [])) (.bool true) (Eq.trans (b := .bool (decide (e_23.1 ≥ e_23.2))) rfl (congrArg V.bool hg24)) rfl rfl rfl ?_
            refine g_end ?_
            refine e_end ?_
            refine renew [(1, (.ref (.bx 1) 0 [] (.agg [(.int .i64 g_1.1), (Enc.enc (g_1.2 : List (Int × Int)))]))), (2, (.bool false)), (3, (.int .i64 i_12)), (54, (.bool true))] ⟨h1, h2, h3, rfl⟩ ?_
            rintro s ⟨h1, h2, h3, h54⟩
            exact t_f30_j1 H g_1 i_12 (s_l2Good_l1 F g_1 k) ih true _ ⟨h1, h2, h3, h54⟩ h
          · refine g_yes (Eq.trans (b := .bool (decide (e_23.1 ≥ e_23.2))) rfl (congrArg V.bool hg24)) (g_v1 (t := 3) (u := (.int .i64 i_12)) (.int .i64 i_12) h3 rfl rfl ?_)
            refine g_yes (Eq.trans (b := .bool (decide (e_23.1 ≥ e_23.2))) rfl (congrArg V.bool hg24)) (g_v1 (t := 41) (u := (.int .i64 i_12)) (.bool (decide (i_12 > 0))) rfl rfl rfl ?_)
            refine g_yes (Eq.trans (b := .bool (decide (e_23.1 ≥ e_23.2))) rfl (congrArg V.bool hg24)) (g_v1 (t := 42) (u := (.bool (decide (i_12 > 0)))) (.bool (decide (i_12 > 0))) rfl rfl rfl ?_)
            refine split_on (c := decide (i_12 > 0)) h (fun hg27 h => ?_) (fun hg27 h => ?_)
            · refine g_yes (Eq.trans (b := .bool (decide (i_12 > 0))) rfl (congrArg V.bool hg27)) (g_v1 (t := 1) (u := (.ref (.bx 1) 0 [] (.agg [(.int .i64 g_1.1), (Enc.enc (g_1.2 : List (Int × Int)))]))) (.ref (.bx 1) 0 [1] (Enc.enc (g_1.2 : List (Int × Int)))) h1 rfl rfl ?_)
              refine g_yes (Eq.trans (b := .bool (decide (i_12 > 0))) rfl (congrArg V.bool hg27)) (g_v1 (t := 44) (u := (.ref (.bx 1) 0 [1] (Enc.enc (g_1.2 : List (Int × Int))))) (Enc.enc (g_1.2 : List (Int × Int))) rfl rfl rfl ?_)
              refine g_yes (Eq.trans (b := .bool (decide (i_12 > 0))) rfl (congrArg V.bool hg27)) (g_v1 (t := 3) (u := (.int .i64 i_12)) (.int .i64 i_12) h3 rfl rfl ?_)
              refine g_yes (Eq.trans (b := .bool (decide (i_12 > 0))) rfl (congrArg V.bool hg27)) (g_v1 (t := 46) (u := (.int .i64 i_12)) (.int .i64 (w64 (i_12 - 1))) rfl rfl rfl ?_)
              obtain ⟨e_31, E_e_31, h⟩ := bind_some h
              refine g_yes (Eq.trans (b := .bool (decide (i_12 > 0))) rfl (congrArg V.bool hg27)) (g_v (.ref .sh 0 [] (.agg [(.int .i64 e_31.1), (.int .i64 e_31.2)])) (ev_idx (t := .sh) (lo := 0) (xs := g_1.2) rfl rfl E_e_31 rfl rfl) ?_)
              refine g_yes (Eq.trans (b := .bool (decide (i_12 > 0))) rfl (congrArg V.bool hg27)) (g_v1 (t := 48) (u := (.ref .sh 0 [] (.agg [(.int .i64 e_31.1), (.int .i64 e_31.2)]))) (.agg [(.int .i64 e_31.1), (.int .i64 e_31.2)]) rfl rfl rfl ?_)
              refine g_yes (Eq.trans (b := .bool (decide (i_12 > 0))) rfl (congrArg V.bool hg27)) (g_v1 (t := 4) (u := (.ref (.bx 4) 0 [] (.agg [(.int .i64 e_23.1), (.int .i64 e_23.2)]))) (.agg [(.int .i64 e_23.1), (.int .i64 e_23.2)]) h4 rfl rfl ?_)
              obtain ⟨r_32, E_r_32, h⟩ := bind_some h
              refine g_yes (Eq.trans (b := .bool (decide (i_12 > 0))) rfl (congrArg V.bool hg27)) (g_call (m := 0) (al := false) (r := (Enc.enc (r_32 : Bool))) [Enc.enc (e_31 : (Int × Int)), Enc.enc (e_23 : (Int × Int))] (ta_cons (v := (.agg [(.int .i64 e_31.1), (.int .i64 e_31.2)])) rfl rfl (Enc.erase_enc (e_31 : (Int × Int))) (ta_cons (v := (.agg [(.int .i64 e_23.1), (.int .i64 e_23.2)])) rfl rfl (Enc.erase_enc (e_23 : (Int × Int))) ta_nil)) (H.c57 _ _ _ E_r_32) H.g57 rfl rfl rfl rfl ?_)
              refine g_yes (Eq.trans (b := .bool (decide (i_12 > 0))) rfl (congrArg V.bool hg27)) (g_v1 (t := 51) (u := (.bool r_32)) (.bool (!r_32)) rfl rfl rfl ?_)
              refine g_yes (Eq.trans (b := .bool (decide (e_23.1 ≥ e_23.2))) rfl (congrArg V.bool hg24)) (g_v2 (t1 := 43) (t2 := 52) (u1 := (.bool true)) (u2 := (.bool (!r_32))) (.bool (!r_32)) (Eq.trans (b := .bool (decide (i_12 > 0))) rfl (congrArg V.bool hg27)) rfl rfl rfl ?_)
              refine g_v2 (t1 := 40) (t2 := 53) (u1 := (.bool false)) (u2 := (.bool (!r_32))) (.bool (!r_32)) (Eq.trans (b := .bool (decide (e_23.1 ≥ e_23.2))) rfl (congrArg V.bool hg24)) rfl rfl rfl ?_
              refine g_end ?_
              refine e_end ?_
              refine renew [(1, (.ref (.bx 1) 0 [] (.agg [(.int .i64 g_1.1), (Enc.enc (g_1.2 : List (Int × Int)))]))), (2, (.bool false)), (3, (.int .i64 i_12)), (54, (.bool (!r_32)))] ⟨h1, h2, h3, rfl⟩ ?_
              rintro s ⟨h1, h2, h3, h54⟩
              exact t_f30_j1 H g_1 i_12 (s_l2Good_l1 F g_1 k) ih (!r_32) _ ⟨h1, h2, h3, h54⟩ h
            · refine g_no (Eq.trans (b := .bool (decide (i_12 > 0))) rfl (congrArg V.bool hg27)) ?_
              refine g_no (Eq.trans (b := .bool (decide (i_12 > 0))) rfl (congrArg V.bool hg27)) ?_
              refine g_no (Eq.trans (b := .bool (decide (i_12 > 0))) rfl (congrArg V.bool hg27)) ?_
              refine g_no (Eq.trans (b := .bool (decide (i_12 > 0))) rfl (congrArg V.bool hg27)) ?_
              refine g_no (Eq.trans (b := .bool (decide (i_12 > 0))) rfl (congrArg V.bool hg27)) ?_
              refine g_no (Eq.trans (b := .bool (decide (i_12 > 0))) rfl (congrArg V.bool hg27)) ?_
              refine g_no (Eq.trans (b := .bool (decide (i_12 > 0))) rfl (congrArg V.bool hg27)) ?_
              refine g_no (Eq.trans (b := .bool (decide (i_12 > 0))) rfl (congrArg V.bool hg27)) ?_
              refine g_no (Eq.trans (b := .bool (decide (i_12 > 0))) rfl (congrArg V.bool hg27)) ?_
              refine g_yes (Eq.trans (b := .bool (decide (e_23.1 ≥ e_23.2))) rfl (congrArg V.bool hg24)) (g_v2 (t1 := 43) (t2 := 52) (u1 := (.bool false)) (u2 := (.tup [])) (.bool false) (Eq.trans (b := .bool (decide (i_12 > 0))) rfl (congrArg V.bool hg27)) rfl rfl rfl ?_)
              refine g_v2 (t1 := 40) (t2 := 53) (u1 := (.bool false)) (u2 := (.bool false)) (.bool false) (Eq.trans (b := .bool (decide (e_23.1 ≥ e_23.2))) rfl (congrArg V.bool hg24)) rfl rfl rfl ?_
              refine g_end ?_
              refine e_end ?_
              refine renew [(1, (.ref (.bx 1) 0 [] (.agg [(.int .i64 g_1.1), (Enc.enc (g_1.2 : List (Int × Int)))]))), (2, (.bool false)), (3, (.int .i64 i_12)), (54, (.bool false))] ⟨h1, h2, h3, rfl⟩ ?_
              rintro s ⟨h1, h2, h3, h54⟩
              exact t_f30_j1 H g_1 i_12 (s_l2Good_l1 F g_1 k) ih false _ ⟨h1, h2, h3, h54⟩ h
    · refine .exit ?_
      refine .esq ?_
      refine .elp ?_
      refine .ebk ?_
      refine .nsq ?_
      refine .seq ?_
      refine run_reg ?_
      refine e_end ?_
      refine g_v1 (t := 1) (u := (.ref (.bx 1) 0 [] (.agg [(.int .i64 g_1.1), (Enc.enc (g_1.2 : List (Int × Int)))]))) (.ref (.bx 1) 0 [0] (.int .i64 g_1.1)) h1 rfl rfl ?_
      refine g_v1 (t := 55) (u := (.ref (.bx 1) 0 [0] (.int .i64 g_1.1))) (.int .i64 g_1.1) rfl rfl rfl ?_
      obtain ⟨r_33, E_r_33, h⟩ := bind_some h
      refine g_call (m := 0) (al := false) (r := (Enc.enc (r_33 : Bool))) [Enc.enc (g_1.1 : Int), Enc.enc (0 : Int), Enc.enc (8 : Int)] (ta_cons (v := (.int .i64 g_1.1)) rfl rfl rfl (ta_cons (v := (.int .i64 0)) rfl rfl rfl (ta_cons (v := (.int .i64 8)) rfl rfl rfl ta_nil))) (H.c56 _ _ _ _ E_r_33) H.g56 rfl rfl rfl rfl ?_
      refine g_v1 (t := 57) (u := (.bool r_33)) (.bool r_33) rfl rfl rfl ?_
      refine g_end ?_
      refine e_end ?_
      refine renew [(2, (.bool r_33))] rfl ?_
      rintro s h2
      refine .nsq ?_
      refine .ret ?_
      have hr := Option.some.inj h
      subst hr
      exact rrA (res_tmp h2) rfl
def s_l2Good (F : Nat) (g_1 : (Int × (List (Int × Int)))) : Option Bool :=
  s_l2Good_l1 F g_1 F 0
theorem t30 (H : H30 D σ F) (g_1 : (Int × (List (Int × Int)))) (s : Nat → V) (hs : Facts [(0, (.agg [(.int .i64 g_1.1), (Enc.enc (g_1.2 : List (Int × Int)))]))] s) (h : s_l2Good F g_1 = some r) : Run D σ (R30 r) (.run A30 []) s := by
  unfold s_l2Good at h
  have h0 := hs
  refine .seq ?_
  refine run_reg ?_
  refine e_clr ?_
  refine e_end ?_
  refine g_box (.agg [(.int .i64 g_1.1), (Enc.enc (g_1.2 : List (Int × Int)))]) (rd_of (keep_clear (s := s) (pk := [1]) h0 rfl (map_agg (maps_cons rfl (maps_cons (Enc.map_enc _ (g_1.2 : List (Int × Int))) maps_nil)))) rfl) (gone_clear (s := s) (pk := [1]) (t := 1) rfl) rfl ?_
  refine g_v0 (.bool false) rfl rfl ?_
  refine g_end ?_
  refine e_end ?_
  refine renew [(1, (.ref (.bx 1) 0 [] (.agg [(.int .i64 g_1.1), (Enc.enc (g_1.2 : List (Int × Int)))]))), (2, (.bool false))] ⟨rfl, rfl⟩ ?_
  rintro s ⟨h1, h2⟩
  refine .nsq ?_
  refine .seq ?_
  refine .seq ?_
  refine run_reg ?_
  refine e_end ?_
  refine g_v0 (.int .i64 0) rfl rfl ?_
  refine g_end ?_
  refine e_end ?_
  refine renew [(1, (.ref (.bx 1) 0 [] (.agg [(.int .i64 g_1.1), (Enc.enc (g_1.2 : List (Int × Int)))]))), (2, (.bool false)), (3, (.int .i64 0))] ⟨h1, h2, rfl⟩ ?_
  rintro s ⟨h1, h2, h3⟩
  refine .nsq ?_
  refine .block ?_
  refine .loop ?_
  exact t_f30_l1 H g_1 F 0 _ ⟨h1, h2, h3⟩ h
end
def e30 (F : Nat) : Ent := ⟨30, dn1 (s_l2Good F) (fun (r : Bool) => (Enc.enc (r : Bool))), 0, false⟩
theorem o30 {D : Den} {σ : Sig} {F : Nat} (hF : Fits2 Try.prog D σ) (H : H30 D σ F) : (e30 F).Ok Try.prog := by
  refine ⟨fun args r h => ?_, ⟨Try.f30, Try.func30, rfl, rfl⟩⟩
  obtain ⟨x0, y, rfl, hy, rfl⟩ := dn1_open h
  exact contract_run hF (by kernel_rfl) Try.func30 rfl c30 (show 1 ≤ Try.f30.ntmps by decide) (t30 H x0 _ rfl hy)
/- loop.example/g01109/spec.l2Near -/
def A68_2 : AC := (AC.cond (O.t 13) AC.skip (AC.exit 0))
def A68_5 : AC := (AC.cond (O.t 42) (AC.seq (AC.reg [] [(I.mk (some 6) none false (X.v (A.mov (O.k (V.bool true)))))] []) AC.ret) AC.skip)
def A68_4 : AC := (AC.seq (AC.reg [] [(I.mk (some 21) none false (X.v (A.idxA (O.t 8) (O.k (V.int IntKind.i64 (Int.ofNat 0))) 2 1))), (I.mk (some 22) none false (X.v (A.load Sh.s (O.t 21)))), (I.mk (some 23) none false (X.v (A.mov (O.t 1)))), (I.mk (some 24) none false (X.v (A.bin BinOp.eql (O.t 22) (O.t 23)))), (I.mk (some 25) none false (X.v (A.mov (O.t 24)))), (I.mk (some 26) (some (25, true)) false (X.v (A.idxA (O.t 8) (O.k (V.int IntKind.i64 (Int.ofNat 1))) 2 1))), (I.mk (some 27) (some (25, true)) false (X.v (A.load Sh.s (O.t 26)))), (I.mk (some 28) (some (25, true)) false (X.v (A.mov (O.t 2)))), (I.mk (some 29) (some (25, true)) false (X.v (A.bin BinOp.eql (O.t 27) (O.t 28)))), (I.mk (some 30) none false (X.v (A.pick (O.t 25) (O.t 29) (O.k (V.bool false))))), (I.mk (some 31) none false (X.v (A.mov (O.t 30)))), (I.mk (some 32) (some (31, false)) false (X.v (A.idxA (O.t 8) (O.k (V.int IntKind.i64 (Int.ofNat 0))) 2 1))), (I.mk (some 33) (some (31, false)) false (X.v (A.load Sh.s (O.t 32)))), (I.mk (some 34) (some (31, false)) false (X.v (A.mov (O.t 2)))), (I.mk (some 35) (some (31, false)) false (X.v (A.bin BinOp.eql (O.t 33) (O.t 34)))), (I.mk (some 36) (some (31, false)) false (X.v (A.mov (O.t 35)))), (I.mk (some 37) (some (36, true)) false (X.v (A.idxA (O.t 8) (O.k (V.int IntKind.i64 (Int.ofNat 1))) 2 1))), (I.mk (some 38) (some (36, true)) false (X.v (A.load Sh.s (O.t 37)))), (I.mk (some 39) (some (36, true)) false (X.v (A.mov (O.t 1)))), (I.mk (some 40) (some (36, true)) false (X.v (A.bin BinOp.eql (O.t 38) (O.t 39)))), (I.mk (some 41) (some (31, false)) false (X.v (A.pick (O.t 36) (O.t 40) (O.k (V.bool false))))), (I.mk (some 42) none false (X.v (A.pick (O.t 31) (O.k (V.bool true)) (O.t 41))))] []) A68_5)
def A68_6 : AC := (AC.reg [] [(I.mk (some 14) none false (X.v (A.mov (O.t 7)))), (I.mk (some 15) none false (X.v (A.bin BinOp.add (O.t 14) (O.k (V.int IntKind.i64 (Int.ofNat 1)))))), (I.mk (some 7) none false (X.v (A.mov (O.t 15))))] [])
def A68_3 : AC := (AC.seq (AC.block 1 (AC.seq (AC.reg [.clr [8]] [(I.mk (some 16) none false (X.v (A.fld (O.t 3) 1 1))), (I.mk (some 17) none false (X.v (A.load Sh.p (O.t 16)))), (I.mk (some 18) none false (X.v (A.mov (O.t 7)))), (I.mk (some 19) none false (X.v (A.idx (O.t 17) (O.t 18) 2))), (I.mk (some 20) none false (X.v (A.load (Sh.ag [Sh.s, Sh.s]) (O.t 19)))), (I.mk (some 8) none false (X.alloc (V.agg [(V.int IntKind.i64 (Int.ofNat 0)), (V.int IntKind.i64 (Int.ofNat 0))]))), (I.mk none none false (X.store (Sh.ag [Sh.s, Sh.s]) (O.t 8) (O.t 20)))] []) A68_4)) A68_6)
def A68_1 : AC := (AC.seq (AC.seq (AC.reg [] [(I.mk (some 9) none false (X.v (A.mov (O.t 7)))), (I.mk (some 10) none false (X.v (A.fld (O.t 3) 1 1))), (I.mk (some 11) none false (X.v (A.load Sh.p (O.t 10)))), (I.mk (some 12) none false (X.v (A.len (O.t 11)))), (I.mk (some 13) none false (X.v (A.bin BinOp.lss (O.t 9) (O.t 12))))] []) A68_2) A68_3)
def A68_7 : AC := (AC.seq (AC.reg [] [(I.mk (some 6) none false (X.v (A.mov (O.k (V.bool false)))))] []) AC.ret)
def A68_9 : AC := (AC.block 0 (AC.loop A68_1))
def A68_8 : AC := (AC.seq (AC.seq (AC.reg [] [(I.mk (some 7) none false (X.v (A.mov (O.k (V.int IntKind.i64 (Int.ofNat 0))))))] []) A68_9) A68_7)
def A68 : AC := (AC.seq (AC.reg [.clr [3]] [(I.mk (some 3) none false (X.box (O.t 0))), (I.mk (some 6) none false (X.v (A.mov (O.k (V.bool false)))))] []) A68_8)
def an68 : List An := [{ id := 0, pre := [.clr [3]], ep := [] }, { id := 4, pre := [.clr [8]], ep := [] }]
theorem c68 : cC Try.prog Try.f68.ntmps an68 (Try.f68.body.getD .skip) = some A68 := by kernel_rfl
structure H68 (D : Den) (σ : Sig) (F : Nat) : Prop where
  mk ::
abbrev R68 (r : Bool) : (Nat → V) → Prop := RR Try.prog [.tmp 6] 0 false (Enc.enc (r : Bool))
section
variable {D : Den} {σ : Sig} {F : Nat} {r : Bool}
def s_l2Near_j1 (F : Nat) (a_2 : Int) (b_3 : Int) (g_1 : (Int × (List (Int × Int)))) (i_6 : Int) (c1 : Int → Option Bool) (t42_10 : Bool) : Option Bool :=
  bif t42_10 then
    some true
  else
    c1 (w64 (i_6 + 1))
theorem t_f68_j1 (H : H68 D σ F) (a_2 : Int) (b_3 : Int) (g_1 : (Int × (List (Int × Int)))) (i_6 : Int) (c1 : Int → Option Bool) (Hc1 : ∀ (i_6 : Int) (s : Nat → V), Facts [(1, (.int .i64 a_2)), (2, (.int .i64 b_3)), (3, (.ref (.bx 3) 0 [] (.agg [(.int .i64 g_1.1), (Enc.enc (g_1.2 : List (Int × Int)))]))), (6, (.bool false)), (7, (.int .i64 i_6))] s → c1 i_6 = some r → Run D σ (R68 r) (.run A68_1 [.lp A68_1, .bk 0, .sq A68_7]) s) (t42_10 : Bool) (s : Nat → V) (hs : Facts [(1, (.int .i64 a_2)), (2, (.int .i64 b_3)), (3, (.ref (.bx 3) 0 [] (.agg [(.int .i64 g_1.1), (Enc.enc (g_1.2 : List (Int × Int)))]))), (6, (.bool false)), (7, (.int .i64 i_6)), (42, (.bool t42_10))] s) (h : s_l2Near_j1 F a_2 b_3 g_1 i_6 c1 t42_10 = some r) : Run D σ (R68 r) (.nrm [.sq A68_5, .bk 1, .sq A68_6, .lp A68_1, .bk 0, .sq A68_7]) s := by
  unfold s_l2Near_j1 at h
  obtain ⟨h1, h2, h3, h6, h7, h42⟩ := hs
  refine .nsq ?_
  refine run_cond (t := t42_10) h42 h (fun h => ?_) (fun h => ?_)
  · refine .seq ?_
    refine run_reg ?_
    refine e_end ?_
    refine g_v0 (.bool true) rfl rfl ?_
    refine g_end ?_
    refine e_end ?_
    refine renew [(1, (.int .i64 a_2)), (2, (.int .i64 b_3)), (3, (.ref (.bx 3) 0 [] (.agg [(.int .i64 g_1.1), (Enc.enc (g_1.2 : List (Int × Int)))]))), (6, (.bool true)), (7, (.int .i64 i_6))] ⟨h1, h2, h3, rfl, h7⟩ ?_
    rintro s ⟨h1, h2, h3, h6, h7⟩
    refine .nsq ?_
    refine .ret ?_
    have hr := Option.some.inj h
    subst hr
    exact rrA (res_tmp h6) rfl
  · refine .skip ?_
    refine .nbk ?_
    refine .nsq ?_
    refine run_reg ?_
    refine e_end ?_
    refine g_v1 (t := 7) (u := (.int .i64 i_6)) (.int .i64 i_6) h7 rfl rfl ?_
    refine g_v1 (t := 14) (u := (.int .i64 i_6)) (.int .i64 (w64 (i_6 + 1))) rfl rfl rfl ?_
    refine g_v1 (t := 15) (u := (.int .i64 (w64 (i_6 + 1)))) (.int .i64 (w64 (i_6 + 1))) rfl rfl rfl ?_
    refine g_end ?_
    refine e_end ?_
    refine renew [(1, (.int .i64 a_2)), (2, (.int .i64 b_3)), (3, (.ref (.bx 3) 0 [] (.agg [(.int .i64 g_1.1), (Enc.enc (g_1.2 : List (Int × Int)))]))), (6, (.bool false)), (7, (.int .i64 (w64 (i_6 + 1))))] ⟨h1, h2, h3, h6, rfl⟩ ?_
    rintro s ⟨h1, h2, h3, h6, h7⟩
    refine .nlp ?_
    exact Hc1 (w64 (i_6 + 1)) _ ⟨h1, h2, h3, h6, h7⟩ h
def s_l2Near_l1 (F : Nat) (a_2 : Int) (b_3 : Int) (g_1 : (Int × (List (Int × Int))))  : Nat → Int → Option Bool
  | 0, _ => none
  | k + 1, i_6 =>
    bif decide (i_6 < (g_1.2.length : Int)) then
      (idx g_1.2 i_6).bind fun e_9 =>
      bif (e_9.1 == a_2) then
        bif (e_9.2 == b_3) then
          s_l2Near_j1 F a_2 b_3 g_1 i_6 (s_l2Near_l1 F a_2 b_3 g_1 k) true
        else
          bif (e_9.1 == b_3) then
            s_l2Near_j1 F a_2 b_3 g_1 i_6 (s_l2Near_l1 F a_2 b_3 g_1 k) (e_9.2 == a_2)
          else
            s_l2Near_j1 F a_2 b_3 g_1 i_6 (s_l2Near_l1 F a_2 b_3 g_1 k) false
      else
        bif (e_9.1 == b_3) then
          s_l2Near_j1 F a_2 b_3 g_1 i_6 (s_l2Near_l1 F a_2 b_3 g_1 k) (e_9.2 == a_2)
        else
          s_l2Near_j1 F a_2 b_3 g_1 i_6 (s_l2Near_l1 F a_2 b_3 g_1 k) false
    else
      some false
theorem t_f68_l1 (H : H68 D σ F) (a_2 : Int) (b_3 : Int) (g_1 : (Int × (List (Int × Int))))  : ∀ (k : Nat) (i_6 : Int) (s : Nat → V), Facts [(1, (.int .i64 a_2)), (2, (.int .i64 b_3)), (3, (.ref (.bx 3) 0 [] (.agg [(.int .i64 g_1.1), (Enc.enc (g_1.2 : List (Int × Int)))]))), (6, (.bool false)), (7, (.int .i64 i_6))] s → s_l2Near_l1 F a_2 b_3 g_1 k i_6 = some r → Run D σ (R68 r) (.run A68_1 [.lp A68_1, .bk 0, .sq A68_7]) s := by
  intro k
  induction k with
  | zero => intro i_6 s _ h; exact nomatch (h : (none : Option _) = some r)
  | succ k ih =>
    intro i_6 s hs h
    rw [s_l2Near_l1] at h
    obtain ⟨h1, h2, h3, h6, h7⟩ := hs
    refine .seq ?_
    refine .seq ?_
    refine run_reg ?_
    refine e_end ?_
    refine g_v1 (t := 7) (u := (.int .i64 i_6)) (.int .i64 i_6) h7 rfl rfl ?_
    refine g_v1 (t := 3) (u := (.ref (.bx 3) 0 [] (.agg [(.int .i64 g_1.1), (Enc.enc (g_1.2 : List (Int × Int)))]))) (.ref (.bx 3) 0 [1] (Enc.enc (g_1.2 : List (Int × Int)))) h3 rfl rfl ?_
    refine g_v1 (t := 10) (u := (.ref (.bx 3) 0 [1] (Enc.enc (g_1.2 : List (Int × Int))))) (Enc.enc (g_1.2 : List (Int × Int))) rfl rfl rfl ?_
    refine g_v (.int .i64 (g_1.2.length : Int)) (ev_len (xs := g_1.2) rfl) ?_
    refine g_v2 (t1 := 9) (t2 := 12) (u1 := (.int .i64 i_6)) (u2 := (.int .i64 (g_1.2.length : Int))) (.bool (decide (i_6 < (g_1.2.length : Int)))) rfl rfl rfl rfl ?_
    refine g_end ?_
    refine e_end ?_
    refine renew [(1, (.int .i64 a_2)), (2, (.int .i64 b_3)), (3, (.ref (.bx 3) 0 [] (.agg [(.int .i64 g_1.1), (Enc.enc (g_1.2 : List (Int × Int)))]))), (6, (.bool false)), (7, (.int .i64 i_6)), (13, (.bool (decide (i_6 < (g_1.2.length : Int)))))] ⟨h1, h2, h3, h6, h7, rfl⟩ ?_
    rintro s ⟨h1, h2, h3, h6, h7, h13⟩
    refine .nsq ?_
    refine run_cond (t := decide (i_6 < (g_1.2.length : Int))) h13 h (fun h => ?_) (fun h => ?_)
    · refine .skip ?_
      refine .nsq ?_
      refine .seq ?_
      refine .block ?_
      refine .seq ?_
      refine run_reg ?_
      refine e_clr ?_
      refine e_end ?_
      refine g_v1 (t := 3) (u := (.ref (.bx 3) 0 [] (.agg [(.int .i64 g_1.1), (Enc.enc (g_1.2 : List (Int × Int)))]))) (.ref (.bx 3) 0 [1] (Enc.enc (g_1.2 : List (Int × Int)))) (keep_clear (s := s) (pk := [8]) h3 rfl (map_bx rfl (map_agg (maps_cons rfl (maps_cons (Enc.map_enc _ (g_1.2 : List (Int × Int))) maps_nil))))) rfl rfl ?_
      refine g_v1 (t := 16) (u := (.ref (.bx 3) 0 [1] (Enc.enc (g_1.2 : List (Int × Int))))) (Enc.enc (g_1.2 : List (Int × Int))) rfl rfl rfl ?_
      refine g_v1 (t := 7) (u := (.int .i64 i_6)) (.int .i64 i_6) (keep_clear (s := s) (pk := [8]) h7 rfl rfl) rfl rfl ?_
      obtain ⟨e_9, E_e_9, h⟩ := bind_some h
      refine g_v (.ref .sh 0 [] (.agg [(.int .i64 e_9.1), (.int .i64 e_9.2)])) (ev_idx (t := .sh) (lo := 0) (xs := g_1.2) rfl rfl E_e_9 rfl rfl) ?_
      refine g_v1 (t := 19) (u := (.ref .sh 0 [] (.agg [(.int .i64 e_9.1), (.int .i64 e_9.2)]))) (.agg [(.int .i64 e_9.1), (.int .i64 e_9.2)]) rfl rfl rfl ?_
      refine g_alloc (gone_clear (s := s) (pk := [8]) (t := 8) rfl) ?_
      refine g_store (.agg [(.int .i64 e_9.1), (.int .i64 e_9.2)]) (rd_of rfl rfl) (rd_of rfl rfl) (by refine ⟨by decide, by decide, rfl, rfl, rfl, ?_⟩; first | rfl | simp [V.toks, V.tokss, Enc.toks_enc]) ?_
      refine g_end ?_
      refine e_end ?_
      refine renew [(1, (.int .i64 a_2)), (2, (.int .i64 b_3)), (3, (.ref (.bx 3) 0 [] (.agg [(.int .i64 g_1.1), (Enc.enc (g_1.2 : List (Int × Int)))]))), (6, (.bool false)), (7, (.int .i64 i_6)), (8, (.ref (.bx 8) 0 [] (.agg [(.int .i64 e_9.1), (.int .i64 e_9.2)])))] ⟨(keep_mut (keep_clear (s := s) (pk := [8]) h1 rfl rfl) rfl), (keep_mut (keep_clear (s := s) (pk := [8]) h2 rfl rfl) rfl), (keep_mut (keep_clear (s := s) (pk := [8]) h3 rfl (map_bx rfl (map_agg (maps_cons rfl (maps_cons (Enc.map_enc _ (g_1.2 : List (Int × Int))) maps_nil))))) (mut_ref_ne rfl rfl (mut_agg (muts_cons rfl (muts_cons (Enc.mut_enc _ _ _ _ (g_1.2 : List (Int × Int))) rfl))))), (keep_mut (keep_clear (s := s) (pk := [8]) h6 rfl rfl) rfl), (keep_mut (keep_clear (s := s) (pk := [8]) h7 rfl rfl) rfl), (keep_mut rfl rfl)⟩ ?_
      rintro s ⟨h1, h2, h3, h6, h7, h8⟩
      refine .nsq ?_
      refine .seq ?_
      refine run_reg ?_
      refine e_end ?_
      refine g_v1 (t := 8) (u := (.ref (.bx 8) 0 [] (.agg [(.int .i64 e_9.1), (.int .i64 e_9.2)]))) (.ref (.bx 8) 0 [0] (.int .i64 e_9.1)) h8 rfl rfl ?_
      refine g_v1 (t := 21) (u := (.ref (.bx 8) 0 [0] (.int .i64 e_9.1))) (.int .i64 e_9.1) rfl rfl rfl ?_
      refine g_v1 (t := 1) (u := (.int .i64 a_2)) (.int .i64 a_2) h1 rfl rfl ?_
      refine g_v2 (t1 := 22) (t2 := 23) (u1 := (.int .i64 e_9.1)) (u2 := (.int .i64 a_2)) (.bool (e_9.1 == a_2)) rfl rfl rfl rfl ?_
      refine g_v1 (t := 24) (u := (.bool (e_9.1 == a_2))) (.bool (e_9.1 == a_2)) rfl rfl rfl ?_
      refine split_on (c := (e_9.1 == a_2)) h (fun hg5 h => ?_) (fun hg5 h => ?_)
      · refine g_yes (Eq.trans (b := .bool (e_9.1 == a_2)) rfl (congrArg V.bool hg5)) (g_v1 (t := 8) (u := (.ref (.bx 8) 0 [] (.agg [(.int .i64 e_9.1), (.int .i64 e_9.2)]))) (.ref (.bx 8) 0 [1] (.int .i64 e_9.2)) h8 rfl rfl ?_)
        refine g_yes (Eq.trans (b := .bool (e_9.1 == a_2)) rfl (congrArg V.bool hg5)) (g_v1 (t := 26) (u := (.ref (.bx 8) 0 [1] (.int .i64 e_9.2))) (.int .i64 e_9.2) rfl rfl rfl ?_)
        refine g_yes (Eq.trans (b := .bool (e_9.1 == a_2)) rfl (congrArg V.bool hg5)) (g_v1 (t := 2) (u := (.int .i64 b_3)) (.int .i64 b_3) h2 rfl rfl ?_)
        refine g_yes (Eq.trans (b := .bool (e_9.1 == a_2)) rfl (congrArg V.bool hg5)) (g_v2 (t1 := 27) (t2 := 28) (u1 := (.int .i64 e_9.2)) (u2 := (.int .i64 b_3)) (.bool (e_9.2 == b_3)) rfl rfl rfl rfl ?_)
        refine g_v2 (t1 := 25) (t2 := 29) (u1 := (.bool true)) (u2 := (.bool (e_9.2 == b_3))) (.bool (e_9.2 == b_3)) (Eq.trans (b := .bool (e_9.1 == a_2)) rfl (congrArg V.bool hg5)) rfl rfl rfl ?_
        refine g_v1 (t := 30) (u := (.bool (e_9.2 == b_3))) (.bool (e_9.2 == b_3)) rfl rfl rfl ?_
        refine split_on (c := (e_9.2 == b_3)) h (fun hg11 h => ?_) (fun hg11 h => ?_)
        · refine g_no (Eq.trans (b := .bool (e_9.2 == b_3)) rfl (congrArg V.bool hg11)) ?_
          refine g_no (Eq.trans (b := .bool (e_9.2 == b_3)) rfl (congrArg V.bool hg11)) ?_
          refine g_no (Eq.trans (b := .bool (e_9.2 == b_3)) rfl (congrArg V.bool hg11)) ?_
          refine g_no (Eq.trans (b := .bool (e_9.2 == b_3)) rfl (congrArg V.bool hg11)) ?_
          refine g_no (Eq.trans (b := .bool (e_9.2 == b_3)) rfl (congrArg V.bool hg11)) ?_
          refine g_skip rfl ?_
          refine g_skip rfl ?_
          refine g_skip rfl ?_
          refine g_skip rfl ?_
          refine g_no (Eq.trans (b := .bool (e_9.2 == b_3)) rfl (congrArg V.bool hg11)) ?_
          refine g_v2 (t1 := 31) (t2 := 41) (u1 := (.bool true)) (u2 := (.tup [])) (.bool true) (Eq.trans (b := .bool (e_9.2 == b_3)) rfl (congrArg V.bool hg11)) rfl rfl rfl ?_
          refine g_end ?_
          refine e_end ?_
          refine renew [(1, (.int .i64 a_2)), (2, (.int .i64 b_3)), (3, (.ref (.bx 3) 0 [] (.agg [(.int .i64 g_1.1), (Enc.enc (g_1.2 : List (Int × Int)))]))), (6, (.bool false)), (7, (.int .i64 i_6)), (42, (.bool true))] ⟨h1, h2, h3, h6, h7, rfl⟩ ?_
          rintro s ⟨h1, h2, h3, h6, h7, h42⟩
          exact t_f68_j1 H a_2 b_3 g_1 i_6 (s_l2Near_l1 F a_2 b_3 g_1 k) ih true _ ⟨h1, h2, h3, h6, h7, h42⟩ h
        · refine g_yes (Eq.trans (b := .bool (e_9.2 == b_3)) rfl (congrArg V.bool hg11)) (g_v1 (t := 8) (u := (.ref (.bx 8) 0 [] (.agg [(.int .i64 e_9.1), (.int .i64 e_9.2)]))) (.ref (.bx 8) 0 [0] (.int .i64 e_9.1)) h8 rfl rfl ?_)
          refine g_yes (Eq.trans (b := .bool (e_9.2 == b_3)) rfl (congrArg V.bool hg11)) (g_v1 (t := 32) (u := (.ref (.bx 8) 0 [0] (.int .i64 e_9.1))) (.int .i64 e_9.1) rfl rfl rfl ?_)
          refine g_yes (Eq.trans (b := .bool (e_9.2 == b_3)) rfl (congrArg V.bool hg11)) (g_v1 (t := 2) (u := (.int .i64 b_3)) (.int .i64 b_3) h2 rfl rfl ?_)
          refine g_yes (Eq.trans (b := .bool (e_9.2 == b_3)) rfl (congrArg V.bool hg11)) (g_v2 (t1 := 33) (t2 := 34) (u1 := (.int .i64 e_9.1)) (u2 := (.int .i64 b_3)) (.bool (e_9.1 == b_3)) rfl rfl rfl rfl ?_)
          refine g_yes (Eq.trans (b := .bool (e_9.2 == b_3)) rfl (congrArg V.bool hg11)) (g_v1 (t := 35) (u := (.bool (e_9.1 == b_3))) (.bool (e_9.1 == b_3)) rfl rfl rfl ?_)
          refine split_on (c := (e_9.1 == b_3)) h (fun hg16 h => ?_) (fun hg16 h => ?_)
          · refine g_yes (Eq.trans (b := .bool (e_9.1 == b_3)) rfl (congrArg V.bool hg16)) (g_v1 (t := 8) (u := (.ref (.bx 8) 0 [] (.agg [(.int .i64 e_9.1), (.int .i64 e_9.2)]))) (.ref (.bx 8) 0 [1] (.int .i64 e_9.2)) h8 rfl rfl ?_)
            refine g_yes (Eq.trans (b := .bool (e_9.1 == b_3)) rfl (congrArg V.bool hg16)) (g_v1 (t := 37) (u := (.ref (.bx 8) 0 [1] (.int .i64 e_9.2))) (.int .i64 e_9.2) rfl rfl rfl ?_)
            refine g_yes (Eq.trans (b := .bool (e_9.1 == b_3)) rfl (congrArg V.bool hg16)) (g_v1 (t := 1) (u := (.int .i64 a_2)) (.int .i64 a_2) h1 rfl rfl ?_)
            refine g_yes (Eq.trans (b := .bool (e_9.1 == b_3)) rfl (congrArg V.bool hg16)) (g_v2 (t1 := 38) (t2 := 39) (u1 := (.int .i64 e_9.2)) (u2 := (.int .i64 a_2)) (.bool (e_9.2 == a_2)) rfl rfl rfl rfl ?_)
            refine g_yes (Eq.trans (b := .bool (e_9.2 == b_3)) rfl (congrArg V.bool hg11)) (g_v2 (t1 := 36) (t2 := 40) (u1 := (.bool true)) (u2 := (.bool (e_9.2 == a_2))) (.bool (e_9.2 == a_2)) (Eq.trans (b := .bool (e_9.1 == b_3)) rfl (congrArg V.bool hg16)) rfl rfl rfl ?_)
            refine g_v2 (t1 := 31) (t2 := 41) (u1 := (.bool false)) (u2 := (.bool (e_9.2 == a_2))) (.bool (e_9.2 == a_2)) (Eq.trans (b := .bool (e_9.2 == b_3)) rfl (congrArg V.bool hg11)) rfl rfl rfl ?_
            refine g_end ?_
            refine e_end ?_
            refine renew [(1, (.int .i64 a_2)), (2, (.int .i64 b_3)), (3, (.ref (.bx 3) 0 [] (.agg [(.int .i64 g_1.1), (Enc.enc (g_1.2 : List (Int × Int)))]))), (6, (.bool false)), (7, (.int .i64 i_6)), (42, (.bool (e_9.2 == a_2)))] ⟨h1, h2, h3, h6, h7, rfl⟩ ?_
            rintro s ⟨h1, h2, h3, h6, h7, h42⟩
            exact t_f68_j1 H a_2 b_3 g_1 i_6 (s_l2Near_l1 F a_2 b_3 g_1 k) ih (e_9.2 == a_2) _ ⟨h1, h2, h3, h6, h7, h42⟩ h
          · refine g_no (Eq.trans (b := .bool (e_9.1 == b_3)) rfl (congrArg V.bool hg16)) ?_
            refine g_no (Eq.trans (b := .bool (e_9.1 == b_3)) rfl (congrArg V.bool hg16)) ?_
            refine g_no (Eq.trans (b := .bool (e_9.1 == b_3)) rfl (congrArg V.bool hg16)) ?_
            refine g_no (Eq.trans (b := .bool (e_9.1 == b_3)) rfl (congrArg V.bool hg16)) ?_
            refine g_yes (Eq.trans (b := .bool (e_9.2 == b_3)) rfl (congrArg V.bool hg11)) (g_v2 (t1 := 36) (t2 := 40) (u1 := (.bool false)) (u2 := (.tup [])) (.bool false) (Eq.trans (b := .bool (e_9.1 == b_3)) rfl (congrArg V.bool hg16)) rfl rfl rfl ?_)
            refine g_v2 (t1 := 31) (t2 := 41) (u1 := (.bool false)) (u2 := (.bool false)) (.bool false) (Eq.trans (b := .bool (e_9.2 == b_3)) rfl (congrArg V.bool hg11)) rfl rfl rfl ?_
            refine g_end ?_
            refine e_end ?_
            refine renew [(1, (.int .i64 a_2)), (2, (.int .i64 b_3)), (3, (.ref (.bx 3) 0 [] (.agg [(.int .i64 g_1.1), (Enc.enc (g_1.2 : List (Int × Int)))]))), (6, (.bool false)), (7, (.int .i64 i_6)), (42, (.bool false))] ⟨h1, h2, h3, h6, h7, rfl⟩ ?_
            rintro s ⟨h1, h2, h3, h6, h7, h42⟩
            exact t_f68_j1 H a_2 b_3 g_1 i_6 (s_l2Near_l1 F a_2 b_3 g_1 k) ih false _ ⟨h1, h2, h3, h6, h7, h42⟩ h
      · refine g_no (Eq.trans (b := .bool (e_9.1 == a_2)) rfl (congrArg V.bool hg5)) ?_
        refine g_no (Eq.trans (b := .bool (e_9.1 == a_2)) rfl (congrArg V.bool hg5)) ?_
        refine g_no (Eq.trans (b := .bool (e_9.1 == a_2)) rfl (congrArg V.bool hg5)) ?_
        refine g_no (Eq.trans (b := .bool (e_9.1 == a_2)) rfl (congrArg V.bool hg5)) ?_
        refine g_v2 (t1 := 25) (t2 := 29) (u1 := (.bool false)) (u2 := (.tup [])) (.bool false) (Eq.trans (b := .bool (e_9.1 == a_2)) rfl (congrArg V.bool hg5)) rfl rfl rfl ?_
        refine g_v1 (t := 30) (u := (.bool false)) (.bool false) rfl rfl rfl ?_
        refine g_yes rfl (g_v1 (t := 8) (u := (.ref (.bx 8) 0 [] (.agg [(.int .i64 e_9.1), (.int .i64 e_9.2)]))) (.ref (.bx 8) 0 [0] (.int .i64 e_9.1)) h8 rfl rfl ?_)
        refine g_yes rfl (g_v1 (t := 32) (u := (.ref (.bx 8) 0 [0] (.int .i64 e_9.1))) (.int .i64 e_9.1) rfl rfl rfl ?_)
        refine g_yes rfl (g_v1 (t := 2) (u := (.int .i64 b_3)) (.int .i64 b_3) h2 rfl rfl ?_)
        refine g_yes rfl (g_v2 (t1 := 33) (t2 := 34) (u1 := (.int .i64 e_9.1)) (u2 := (.int .i64 b_3)) (.bool (e_9.1 == b_3)) rfl rfl rfl rfl ?_)
        refine g_yes rfl (g_v1 (t := 35) (u := (.bool (e_9.1 == b_3))) (.bool (e_9.1 == b_3)) rfl rfl rfl ?_)
        refine split_on (c := (e_9.1 == b_3)) h (fun hg16 h => ?_) (fun hg16 h => ?_)
        · refine g_yes (Eq.trans (b := .bool (e_9.1 == b_3)) rfl (congrArg V.bool hg16)) (g_v1 (t := 8) (u := (.ref (.bx 8) 0 [] (.agg [(.int .i64 e_9.1), (.int .i64 e_9.2)]))) (.ref (.bx 8) 0 [1] (.int .i64 e_9.2)) h8 rfl rfl ?_)
          refine g_yes (Eq.trans (b := .bool (e_9.1 == b_3)) rfl (congrArg V.bool hg16)) (g_v1 (t := 37) (u := (.ref (.bx 8) 0 [1] (.int .i64 e_9.2))) (.int .i64 e_9.2) rfl rfl rfl ?_)
          refine g_yes (Eq.trans (b := .bool (e_9.1 == b_3)) rfl (congrArg V.bool hg16)) (g_v1 (t := 1) (u := (.int .i64 a_2)) (.int .i64 a_2) h1 rfl rfl ?_)
          refine g_yes (Eq.trans (b := .bool (e_9.1 == b_3)) rfl (congrArg V.bool hg16)) (g_v2 (t1 := 38) (t2 := 39) (u1 := (.int .i64 e_9.2)) (u2 := (.int .i64 a_2)) (.bool (e_9.2 == a_2)) rfl rfl rfl rfl ?_)
          refine g_yes rfl (g_v2 (t1 := 36) (t2 := 40) (u1 := (.bool true)) (u2 := (.bool (e_9.2 == a_2))) (.bool (e_9.2 == a_2)) (Eq.trans (b := .bool (e_9.1 == b_3)) rfl (congrArg V.bool hg16)) rfl rfl rfl ?_)
          refine g_v2 (t1 := 31) (t2 := 41) (u1 := (.bool false)) (u2 := (.bool (e_9.2 == a_2))) (.bool (e_9.2 == a_2)) rfl rfl rfl rfl ?_
          refine g_end ?_
          refine e_end ?_
          refine renew [(1, (.int .i64 a_2)), (2, (.int .i64 b_3)), (3, (.ref (.bx 3) 0 [] (.agg [(.int .i64 g_1.1), (Enc.enc (g_1.2 : List (Int × Int)))]))), (6, (.bool false)), (7, (.int .i64 i_6)), (42, (.bool (e_9.2 == a_2)))] ⟨h1, h2, h3, h6, h7, rfl⟩ ?_
          rintro s ⟨h1, h2, h3, h6, h7, h42⟩
          exact t_f68_j1 H a_2 b_3 g_1 i_6 (s_l2Near_l1 F a_2 b_3 g_1 k) ih (e_9.2 == a_2) _ ⟨h1, h2, h3, h6, h7, h42⟩ h
        · refine g_no (Eq.trans (b := .bool (e_9.1 == b_3)) rfl (congrArg V.bool hg16)) ?_
          refine g_no (Eq.trans (b := .bool (e_9.1 == b_3)) rfl (congrArg V.bool hg16)) ?_
          refine g_no (Eq.trans (b := .bool (e_9.1 == b_3)) rfl (congrArg V.bool hg16)) ?_
          refine g_no (Eq.trans (b := .bool (e_9.1 == b_3)) rfl (congrArg V.bool hg16)) ?_
          refine g_yes rfl (g_v2 (t1 := 36) (t2 := 40) (u1 := (.bool false)) (u2 := (.tup [])) (.bool false) (Eq.trans (b := .bool (e_9.1 == b_3)) rfl (congrArg V.bool hg16)) rfl rfl rfl ?_)
          refine g_v2 (t1 := 31) (t2 := 41) (u1 := (.bool false)) (u2 := (.bool false)) (.bool false) rfl rfl rfl rfl ?_
          refine g_end ?_
          refine e_end ?_
          refine renew [(1, (.int .i64 a_2)), (2, (.int .i64 b_3)), (3, (.ref (.bx 3) 0 [] (.agg [(.int .i64 g_1.1), (Enc.enc (g_1.2 : List (Int × Int)))]))), (6, (.bool false)), (7, (.int .i64 i_6)), (42, (.bool false))] ⟨h1, h2, h3, h6, h7, rfl⟩ ?_
          rintro s ⟨h1, h2, h3, h6, h7, h42⟩
          exact t_f68_j1 H a_2 b_3 g_1 i_6 (s_l2Near_l1 F a_2 b_3 g_1 k) ih false _ ⟨h1, h2, h3, h6, h7, h42⟩ h
    · refine .exit ?_
      refine .esq ?_
      refine .elp ?_
      refine .ebk ?_
      refine .nsq ?_
      refine .seq ?_
      refine run_reg ?_
      refine e_end ?_
      refine g_v0 (.bool false) rfl rfl ?_
      refine g_end ?_
      refine e_end ?_
      refine renew [(6, (.bool false))] rfl ?_
      rintro s h6
      refine .nsq ?_
      refine .ret ?_
      have hr := Option.some.inj h
      subst hr
      exact rrA (res_tmp h6) rfl
def s_l2Near (F : Nat) (g_1 : (Int × (List (Int × Int)))) (a_2 : Int) (b_3 : Int) : Option Bool :=
  s_l2Near_l1 F a_2 b_3 g_1 F 0
theorem t68 (H : H68 D σ F) (g_1 : (Int × (List (Int × Int)))) (a_2 : Int) (b_3 : Int) (s : Nat → V) (hs : Facts [(0, (.agg [(.int .i64 g_1.1), (Enc.enc (g_1.2 : List (Int × Int)))])), (1, (.int .i64 a_2)), (2, (.int .i64 b_3))] s) (h : s_l2Near F g_1 a_2 b_3 = some r) : Run D σ (R68 r) (.run A68 []) s := by
  unfold s_l2Near at h
  obtain ⟨h0, h1, h2⟩ := hs
  refine .seq ?_
  refine run_reg ?_
  refine e_clr ?_
  refine e_end ?_
  refine g_box (.agg [(.int .i64 g_1.1), (Enc.enc (g_1.2 : List (Int × Int)))]) (rd_of (keep_clear (s := s) (pk := [3]) h0 rfl (map_agg (maps_cons rfl (maps_cons (Enc.map_enc _ (g_1.2 : List (Int × Int))) maps_nil)))) rfl) (gone_clear (s := s) (pk := [3]) (t := 3) rfl) rfl ?_
  refine g_v0 (.bool false) rfl rfl ?_
  refine g_end ?_
  refine e_end ?_
  refine renew [(1, (.int .i64 a_2)), (2, (.int .i64 b_3)), (3, (.ref (.bx 3) 0 [] (.agg [(.int .i64 g_1.1), (Enc.enc (g_1.2 : List (Int × Int)))]))), (6, (.bool false))] ⟨(keep_clear (s := s) (pk := [3]) h1 rfl rfl), (keep_clear (s := s) (pk := [3]) h2 rfl rfl), rfl, rfl⟩ ?_
  rintro s ⟨h1, h2, h3, h6⟩
  refine .nsq ?_
  refine .seq ?_
  refine .seq ?_
  refine run_reg ?_
  refine e_end ?_
  refine g_v0 (.int .i64 0) rfl rfl ?_
  refine g_end ?_
  refine e_end ?_
  refine renew [(1, (.int .i64 a_2)), (2, (.int .i64 b_3)), (3, (.ref (.bx 3) 0 [] (.agg [(.int .i64 g_1.1), (Enc.enc (g_1.2 : List (Int × Int)))]))), (6, (.bool false)), (7, (.int .i64 0))] ⟨h1, h2, h3, h6, rfl⟩ ?_
  rintro s ⟨h1, h2, h3, h6, h7⟩
  refine .nsq ?_
  refine .block ?_
  refine .loop ?_
  exact t_f68_l1 H a_2 b_3 g_1 F 0 _ ⟨h1, h2, h3, h6, h7⟩ h
end
def e68 (F : Nat) : Ent := ⟨68, dn3 (s_l2Near F) (fun (r : Bool) => (Enc.enc (r : Bool))), 0, false⟩
theorem o68 {D : Den} {σ : Sig} {F : Nat} (hF : Fits2 Try.prog D σ) (H : H68 D σ F) : (e68 F).Ok Try.prog := by
  refine ⟨fun args r h => ?_, ⟨Try.f68, Try.func68, rfl, rfl⟩⟩
  obtain ⟨x0, x1, x2, y, rfl, hy, rfl⟩ := dn3_open h
  exact contract_run hF (by kernel_rfl) Try.func68 rfl c68 (show 3 ≤ Try.f68.ntmps by decide) (t68 H x0 x1 x2 _ ⟨rfl, rfl, rfl⟩ hy)
/- loop.example/g01109/spec.l2Dist -/
def A71_2 : AC := (AC.cond (O.t 14) AC.skip (AC.exit 0))
def A71_7 : AC := (AC.cond (O.t 21) AC.skip (AC.exit 2))
def A71_9 : AC := (AC.reg [] [(I.mk (some 22) none false (X.v (A.mov (O.t 6)))), (I.mk (some 23) none false (X.v (A.bin BinOp.add (O.t 22) (O.k (V.int IntKind.i64 (Int.ofNat 1)))))), (I.mk (some 6) none false (X.v (A.mov (O.t 23))))] [])
def A71_8 : AC := (AC.seq (AC.block 3 (AC.reg [.clr [25, 26]] [(I.mk (some 24) none false (X.v (A.mov (O.t 5)))), (I.mk (some 25) none false (X.lit (V.int IntKind.i64 (Int.ofNat 0)) 1 [(0, 0, (O.k (V.int IntKind.i64 (Int.negSucc 0))))])), (I.mk (some 26) none false (X.app Sh.s (O.t 24) (O.t 25))), (I.mk (some 5) none false (X.v (A.mov (O.t 26))))] [.home 26 5])) A71_9)
def A71_6 : AC := (AC.seq (AC.seq (AC.reg [] [(I.mk (some 18) none false (X.v (A.mov (O.t 6)))), (I.mk (some 19) none false (X.v (A.fld (O.t 1) 0 0))), (I.mk (some 20) none false (X.v (A.load Sh.s (O.t 19)))), (I.mk (some 21) none false (X.v (A.bin BinOp.lss (O.t 18) (O.t 20))))] []) A71_7) A71_8)
def A71_5 : AC := (AC.block 2 (AC.loop A71_6))
def A71_14 : AC := (AC.cond (O.t 33) AC.skip (AC.exit 4))
def A71_18 : AC := (AC.cond (O.t 39) AC.skip (AC.exit 6))
def A71_22 : AC := (AC.cond (O.t 45) AC.skip (AC.exit 8))
def A71_24 : AC := (AC.cond (O.t 66) (AC.reg [] [(I.mk (some 67) none false (X.v (A.mov (O.t 5)))), (I.mk (some 68) none false (X.v (A.mov (O.t 9)))), (I.mk (some 69) none false (X.v (A.mov (O.t 7)))), (I.mk (some 70) none false (X.v (A.bin BinOp.add (O.t 69) (O.k (V.int IntKind.i64 (Int.ofNat 1)))))), (I.mk (some 71) none false (X.v (A.idx (O.t 67) (O.t 68) 1))), (I.mk none none false (X.store Sh.s (O.t 71) (O.t 70)))] []) AC.skip)
def A71_25 : AC := (AC.reg [] [(I.mk (some 46) none false (X.v (A.mov (O.t 9)))), (I.mk (some 47) none false (X.v (A.bin BinOp.add (O.t 46) (O.k (V.int IntKind.i64 (Int.ofNat 1)))))), (I.mk (some 9) none false (X.v (A.mov (O.t 47))))] [])
def A71_23 : AC := (AC.seq (AC.block 9 (AC.seq (AC.reg [] [(I.mk (some 48) none false (X.v (A.mov (O.t 5)))), (I.mk (some 49) none false (X.v (A.mov (O.t 8)))), (I.mk (some 50) none false (X.v (A.idx (O.t 48) (O.t 49) 1))), (I.mk (some 51) none false (X.v (A.load Sh.s (O.t 50)))), (I.mk (some 52) none false (X.v (A.mov (O.t 7)))), (I.mk (some 53) none false (X.v (A.bin BinOp.eql (O.t 51) (O.t 52)))), (I.mk (some 54) none false (X.v (A.mov (O.t 53)))), (I.mk (some 55) (some (54, true)) false (X.v (A.mov (O.t 5)))), (I.mk (some 56) (some (54, true)) false (X.v (A.mov (O.t 9)))), (I.mk (some 57) (some (54, true)) false (X.v (A.idx (O.t 55) (O.t 56) 1))), (I.mk (some 58) (some (54, true)) false (X.v (A.load Sh.s (O.t 57)))), (I.mk (some 59) (some (54, true)) false (X.v (A.bin BinOp.lss (O.t 58) (O.k (V.int IntKind.i64 (Int.ofNat 0)))))), (I.mk (some 60) none false (X.v (A.pick (O.t 54) (O.t 59) (O.k (V.bool false))))), (I.mk (some 61) none false (X.v (A.mov (O.t 60)))), (I.mk (some 62) (some (61, true)) false (X.v (A.load (Sh.ag [Sh.s, Sh.p]) (O.t 1)))), (I.mk (some 63) (some (61, true)) false (X.v (A.mov (O.t 8)))), (I.mk (some 64) (some (61, true)) false (X.v (A.mov (O.t 9)))), (I.mk (some 65) (some (61, true)) false (X.call (O.k (V.fn 68 [] [])) [(O.t 62), (O.t 63), (O.t 64)])), (I.mk (some 66) none false (X.v (A.pick (O.t 61) (O.t 65) (O.k (V.bool false)))))] []) A71_24)) A71_25)
def A71_21 : AC := (AC.seq (AC.seq (AC.reg [] [(I.mk (some 42) none false (X.v (A.mov (O.t 9)))), (I.mk (some 43) none false (X.v (A.fld (O.t 1) 0 0))), (I.mk (some 44) none false (X.v (A.load Sh.s (O.t 43)))), (I.mk (some 45) none false (X.v (A.bin BinOp.lss (O.t 42) (O.t 44))))] []) A71_22) A71_23)
def A71_20 : AC := (AC.block 8 (AC.loop A71_21))
def A71_26 : AC := (AC.reg [] [(I.mk (some 40) none false (X.v (A.mov (O.t 8)))), (I.mk (some 41) none false (X.v (A.bin BinOp.add (O.t 40) (O.k (V.int IntKind.i64 (Int.ofNat 1)))))), (I.mk (some 8) none false (X.v (A.mov (O.t 41))))] [])
def A71_19 : AC := (AC.seq (AC.block 7 (AC.seq (AC.reg [] [(I.mk (some 9) none false (X.v (A.mov (O.k (V.int IntKind.i64 (Int.ofNat 0))))))] []) A71_20)) A71_26)
def A71_17 : AC := (AC.seq (AC.seq (AC.reg [] [(I.mk (some 36) none false (X.v (A.mov (O.t 8)))), (I.mk (some 37) none false (X.v (A.fld (O.t 1) 0 0))), (I.mk (some 38) none false (X.v (A.load Sh.s (O.t 37)))), (I.mk (some 39) none false (X.v (A.bin BinOp.lss (O.t 36) (O.t 38))))] []) A71_18) A71_19)
def A71_16 : AC := (AC.block 6 (AC.loop A71_17))
def A71_27 : AC := (AC.reg [] [(I.mk (some 34) none false (X.v (A.mov (O.t 7)))), (I.mk (some 35) none false (X.v (A.bin BinOp.add (O.t 34) (O.k (V.int IntKind.i64 (Int.ofNat 1)))))), (I.mk (some 7) none false (X.v (A.mov (O.t 35))))] [])
def A71_15 : AC := (AC.seq (AC.block 5 (AC.seq (AC.reg [] [(I.mk (some 8) none false (X.v (A.mov (O.k (V.int IntKind.i64 (Int.ofNat 0))))))] []) A71_16)) A71_27)
def A71_13 : AC := (AC.seq (AC.seq (AC.reg [] [(I.mk (some 30) none false (X.v (A.mov (O.t 7)))), (I.mk (some 31) none false (X.v (A.fld (O.t 1) 0 0))), (I.mk (some 32) none false (X.v (A.load Sh.s (O.t 31)))), (I.mk (some 33) none false (X.v (A.bin BinOp.lss (O.t 30) (O.t 32))))] []) A71_14) A71_15)
def A71_12 : AC := (AC.block 4 (AC.loop A71_13))
def A71_28 : AC := (AC.reg [.clr [74, 75], .frz 5] [(I.mk (some 72) none false (X.v (A.mov (O.t 3)))), (I.mk (some 73) none false (X.v (A.mov (O.t 5)))), (I.mk (some 74) none false (X.lit (V.sl Tok.nl Sh.s 0 []) 1 [(0, 0, (O.t 73))])), (I.mk (some 75) none false (X.app Sh.p (O.t 72) (O.t 74))), (I.mk (some 3) none false (X.v (A.mov (O.t 75))))] [.home 75 3])
def A71_11 : AC := (AC.seq (AC.seq (AC.reg [] [(I.mk (some 7) none false (X.v (A.mov (O.k (V.int IntKind.i64 (Int.ofNat 0))))))] []) A71_12) A71_28)
def A71_10 : AC := (AC.seq (AC.reg [] [(I.mk (some 27) none false (X.v (A.mov (O.t 5)))), (I.mk (some 28) none false (X.v (A.mov (O.t 4)))), (I.mk (some 29) none false (X.v (A.idx (O.t 27) (O.t 28) 1))), (I.mk none none false (X.store Sh.s (O.t 29) (O.k (V.int IntKind.i64 (Int.ofNat 0)))))] []) A71_11)
def A71_4 : AC := (AC.seq (AC.seq (AC.reg [] [(I.mk (some 6) none false (X.v (A.mov (O.k (V.int IntKind.i64 (Int.ofNat 0))))))] []) A71_5) A71_10)
def A71_29 : AC := (AC.reg [] [(I.mk (some 15) none false (X.v (A.mov (O.t 4)))), (I.mk (some 16) none false (X.v (A.bin BinOp.add (O.t 15) (O.k (V.int IntKind.i64 (Int.ofNat 1)))))), (I.mk (some 4) none false (X.v (A.mov (O.t 16))))] [])
def A71_3 : AC := (AC.seq (AC.block 1 (AC.seq (AC.reg [.clr [17]] [(I.mk (some 17) none false (X.lit (V.int IntKind.i64 (Int.ofNat 0)) 0 [])), (I.mk (some 5) none false (X.v (A.mov (O.t 17))))] [.home 17 5]) A71_4)) A71_29)
def A71_1 : AC := (AC.seq (AC.seq (AC.reg [] [(I.mk (some 11) none false (X.v (A.mov (O.t 4)))), (I.mk (some 12) none false (X.v (A.fld (O.t 1) 0 0))), (I.mk (some 13) none false (X.v (A.load Sh.s (O.t 12)))), (I.mk (some 14) none false (X.v (A.bin BinOp.lss (O.t 11) (O.t 13))))] []) A71_2) A71_3)
def A71_30 : AC := (AC.seq (AC.reg [] [(I.mk (some 76) none false (X.v (A.mov (O.t 3)))), (I.mk (some 2) none false (X.v (A.mov (O.t 76))))] [.home 3 2]) AC.ret)
def A71_33 : AC := (AC.block 0 (AC.loop A71_1))
def A71_32 : AC := (AC.seq (AC.seq (AC.reg [] [(I.mk (some 4) none false (X.v (A.mov (O.k (V.int IntKind.i64 (Int.ofNat 0))))))] []) A71_33) A71_30)
def A71_31 : AC := (AC.seq (AC.reg [.clr [10]] [(I.mk (some 10) none false (X.lit (V.sl Tok.nl Sh.s 0 []) 0 [])), (I.mk (some 3) none false (X.v (A.mov (O.t 10))))] [.home 10 3]) A71_32)
def A71 : AC := (AC.seq (AC.reg [.clr [1]] [(I.mk (some 1) none false (X.box (O.t 0))), (I.mk (some 2) none false (X.v (A.mov (O.k (V.sl Tok.nl Sh.p 0 [])))))] []) A71_31)
def an71 : List An := [{ id := 0, pre := [.clr [1]], ep := [] }, { id := 1, pre := [.clr [10]], ep := [.home 10 3] }, { id := 5, pre := [.clr [17]], ep := [.home 17 5] }, { id := 9, pre := [.clr [25, 26]], ep := [.home 26 5] }, { id := 22, pre := [.clr [74, 75], .frz 5], ep := [.home 75 3] }, { id := 23, pre := [], ep := [.home 3 2] }]
theorem c71 : cC Try.prog Try.f71.ntmps an71 (Try.f71.body.getD .skip) = some A71 := by kernel_rfl
structure H71 (D : Den) (σ : Sig) (F : Nat) : Prop where
  c68 : ∀ x0 x1 x2 r, s_l2Near F x0 x1 x2 = some r → D 68 [Enc.enc x0, Enc.enc x1, Enc.enc x2] = some (Enc.enc (r : Bool))
  g68 : σ 68 = some (0, false)
abbrev R71 (r : (List (List Int))) : (Nat → V) → Prop := RR Try.prog [.tmp 2] 0 true (Enc.enc (r : (List (List Int))))
section
variable {D : Den} {σ : Sig} {F : Nat} {r : (List (List Int))}
def s_l2Dist_j1 (F : Nat) (g_1 : (Int × (List (Int × Int)))) (out_305 : (List (List Int))) (x_306 : Int) (d_715 : Int) (y_847 : Int) (z_891 : Int) (c1 : (List (List Int)) → Int → Option (List (List Int))) (c31 : (List Int) → Int → Option (List (List Int))) (c40 : (List Int) → Int → Option (List (List Int))) (c43 : (List Int) → Int → Option (List (List Int))) (row_907 : (List Int)) : Option (List (List Int)) :=
  c43 row_907 (w64 (z_891 + 1))
theorem t_f71_j1 (H : H71 D σ F) (g_1 : (Int × (List (Int × Int)))) (out_305 : (List (List Int))) (x_306 : Int) (d_715 : Int) (y_847 : Int) (z_891 : Int) (c1 : (List (List Int)) → Int → Option (List (List Int))) (Hc1 : ∀ (out_305 : (List (List Int))) (x_306 : Int) (s : Nat → V), Facts [(1, (.ref (.bx 1) 0 [] (.agg [(.int .i64 g_1.1), (Enc.enc (g_1.2 : List (Int × Int)))]))), (2, (.sl .nl (Enc.shp (List Int)) 0 [])), (3, (encO (.at 3 []) (.of (out_305 : List (List Int))))), (4, (.int .i64 x_306))] s → c1 out_305 x_306 = some r → Run D σ (R71 r) (.run A71_1 [.lp A71_1, .bk 0, .sq A71_30]) s) (c31 : (List Int) → Int → Option (List (List Int))) (Hc31 : ∀ (row_714 : (List Int)) (d_715 : Int) (s : Nat → V), Facts [(1, (.ref (.bx 1) 0 [] (.agg [(.int .i64 g_1.1), (Enc.enc (g_1.2 : List (Int × Int)))]))), (2, (.sl .nl (Enc.shp (List Int)) 0 [])), (3, (encO (.at 3 []) (.of (out_305 : List (List Int))))), (4, (.int .i64 x_306)), (5, (encO (.at 5 []) (.of (row_714 : List Int)))), (7, (.int .i64 d_715))] s → c31 row_714 d_715 = some r → Run D σ (R71 r) (.run A71_13 [.lp A71_13, .bk 4, .sq A71_28, .bk 1, .sq A71_29, .lp A71_1, .bk 0, .sq A71_30]) s) (c40 : (List Int) → Int → Option (List (List Int))) (Hc40 : ∀ (row_846 : (List Int)) (y_847 : Int) (s : Nat → V), Facts [(1, (.ref (.bx 1) 0 [] (.agg [(.int .i64 g_1.1), (Enc.enc (g_1.2 : List (Int × Int)))]))), (2, (.sl .nl (Enc.shp (List Int)) 0 [])), (3, (encO (.at 3 []) (.of (out_305 : List (List Int))))), (4, (.int .i64 x_306)), (5, (encO (.at 5 []) (.of (row_846 : List Int)))), (7, (.int .i64 d_715)), (8, (.int .i64 y_847))] s → c40 row_846 y_847 = some r → Run D σ (R71 r) (.run A71_17 [.lp A71_17, .bk 6, .bk 5, .sq A71_27, .lp A71_13, .bk 4, .sq A71_28, .bk 1, .sq A71_29, .lp A71_1, .bk 0, .sq A71_30]) s) (c43 : (List Int) → Int → Option (List (List Int))) (Hc43 : ∀ (row_890 : (List Int)) (z_891 : Int) (s : Nat → V), Facts [(1, (.ref (.bx 1) 0 [] (.agg [(.int .i64 g_1.1), (Enc.enc (g_1.2 : List (Int × Int)))]))), (2, (.sl .nl (Enc.shp (List Int)) 0 [])), (3, (encO (.at 3 []) (.of (out_305 : List (List Int))))), (4, (.int .i64 x_306)), (5, (encO (.at 5 []) (.of (row_890 : List Int)))), (7, (.int .i64 d_715)), (8, (.int .i64 y_847)), (9, (.int .i64 z_891))] s → c43 row_890 z_891 = some r → Run D σ (R71 r) (.run A71_21 [.lp A71_21, .bk 8, .bk 7, .sq A71_26, .lp A71_17, .bk 6, .bk 5, .sq A71_27, .lp A71_13, .bk 4, .sq A71_28, .bk 1, .sq A71_29, .lp A71_1, .bk 0, .sq A71_30]) s) (row_907 : (List Int)) (s : Nat → V) (hs : Facts [(1, (.ref (.bx 1) 0 [] (.agg [(.int .i64 g_1.1), (Enc.enc (g_1.2 : List (Int × Int)))]))), (2, (.sl .nl (Enc.shp (List Int)) 0 [])), (3, (encO (.at 3 []) (.of (out_305 : List (List Int))))), (4, (.int .i64 x_306)), (5, (encO (.at 5 []) (.of (row_907 : List Int)))), (7, (.int .i64 d_715)), (8, (.int .i64 y_847)), (9, (.int .i64 z_891))] s) (h : s_l2Dist_j1 F g_1 out_305 x_306 d_715 y_847 z_891 c1 c31 c40 c43 row_907 = some r) : Run D σ (R71 r) (.nrm [.bk 9, .sq A71_25, .lp A71_21, .bk 8, .bk 7, .sq A71_26, .lp A71_17, .bk 6, .bk 5, .sq A71_27, .lp A71_13, .bk 4, .sq A71_28, .bk 1, .sq A71_29, .lp A71_1, .bk 0, .sq A71_30]) s := by
  unfold s_l2Dist_j1 at h
  obtain ⟨h1, h2, h3, h4, h5, h7, h8, h9⟩ := hs
  refine .nbk ?_
  refine .nsq ?_
  refine run_reg ?_
  refine e_end ?_
  refine g_v1 (t := 9) (u := (.int .i64 z_891)) (.int .i64 z_891) h9 rfl rfl ?_
  refine g_v1 (t := 46) (u := (.int .i64 z_891)) (.int .i64 (w64 (z_891 + 1))) rfl rfl rfl ?_
  refine g_v1 (t := 47) (u := (.int .i64 (w64 (z_891 + 1)))) (.int .i64 (w64 (z_891 + 1))) rfl rfl rfl ?_
  refine g_end ?_
  refine e_end ?_
  refine renew [(1, (.ref (.bx 1) 0 [] (.agg [(.int .i64 g_1.1), (Enc.enc (g_1.2 : List (Int × Int)))]))), (2, (.sl .nl (Enc.shp (List Int)) 0 [])), (3, (encO (.at 3 []) (.of (out_305 : List (List Int))))), (4, (.int .i64 x_306)), (5, (encO (.at 5 []) (.of (row_907 : List Int)))), (7, (.int .i64 d_715)), (8, (.int .i64 y_847)), (9, (.int .i64 (w64 (z_891 + 1))))] ⟨h1, h2, h3, h4, h5, h7, h8, rfl⟩ ?_
  rintro s ⟨h1, h2, h3, h4, h5, h7, h8, h9⟩
  refine .nlp ?_
  exact Hc43 row_907 (w64 (z_891 + 1)) _ ⟨h1, h2, h3, h4, h5, h7, h8, h9⟩ h
def s_l2Dist_j2 (F : Nat) (g_1 : (Int × (List (Int × Int)))) (out_305 : (List (List Int))) (x_306 : Int) (row_890 : (List Int)) (d_715 : Int) (y_847 : Int) (z_891 : Int) (c1 : (List (List Int)) → Int → Option (List (List Int))) (c31 : (List Int) → Int → Option (List (List Int))) (c40 : (List Int) → Int → Option (List (List Int))) (c43 : (List Int) → Int → Option (List (List Int))) (t66_905 : Bool) : Option (List (List Int)) :=
  bif t66_905 then
    (idx row_890 z_891).bind fun e_908 =>
    s_l2Dist_j1 F g_1 out_305 x_306 d_715 y_847 z_891 c1 c31 c40 c43 (row_890.set z_891.toNat (w64 (d_715 + 1)))
  else
    s_l2Dist_j1 F g_1 out_305 x_306 d_715 y_847 z_891 c1 c31 c40 c43 row_890
theorem t_f71_j2 (H : H71 D σ F) (g_1 : (Int × (List (Int × Int)))) (out_305 : (List (List Int))) (x_306 : Int) (row_890 : (List Int)) (d_715 : Int) (y_847 : Int) (z_891 : Int) (c1 : (List (List Int)) → Int → Option (List (List Int))) (Hc1 : ∀ (out_305 : (List (List Int))) (x_306 : Int) (s : Nat → V), Facts [(1, (.ref (.bx 1) 0 [] (.agg [(.int .i64 g_1.1), (Enc.enc (g_1.2 : List (Int × Int)))]))), (2, (.sl .nl (Enc.shp (List Int)) 0 [])), (3, (encO (.at 3 []) (.of (out_305 : List (List Int))))), (4, (.int .i64 x_306))] s → c1 out_305 x_306 = some r → Run D σ (R71 r) (.run A71_1 [.lp A71_1, .bk 0, .sq A71_30]) s) (c31 : (List Int) → Int → Option (List (List Int))) (Hc31 : ∀ (row_714 : (List Int)) (d_715 : Int) (s : Nat → V), Facts [(1, (.ref (.bx 1) 0 [] (.agg [(.int .i64 g_1.1), (Enc.enc (g_1.2 : List (Int × Int)))]))), (2, (.sl .nl (Enc.shp (List Int)) 0 [])), (3, (encO (.at 3 []) (.of (out_305 : List (List Int))))), (4, (.int .i64 x_306)), (5, (encO (.at 5 []) (.of (row_714 : List Int)))), (7, (.int .i64 d_715))] s → c31 row_714 d_715 = some r → Run D σ (R71 r) (.run A71_13 [.lp A71_13, .bk 4, .sq A71_28, .bk 1, .sq A71_29, .lp A71_1, .bk 0, .sq A71_30]) s) (c40 : (List Int) → Int → Option (List (List Int))) (Hc40 : ∀ (row_846 : (List Int)) (y_847 : Int) (s : Nat → V), Facts [(1, (.ref (.bx 1) 0 [] (.agg [(.int .i64 g_1.1), (Enc.enc (g_1.2 : List (Int × Int)))]))), (2, (.sl .nl (Enc.shp (List Int)) 0 [])), (3, (encO (.at 3 []) (.of (out_305 : List (List Int))))), (4, (.int .i64 x_306)), (5, (encO (.at 5 []) (.of (row_846 : List Int)))), (7, (.int .i64 d_715)), (8, (.int .i64 y_847))] s → c40 row_846 y_847 = some r → Run D σ (R71 r) (.run A71_17 [.lp A71_17, .bk 6, .bk 5, .sq A71_27, .lp A71_13, .bk 4, .sq A71_28, .bk 1, .sq A71_29, .lp A71_1, .bk 0, .sq A71_30]) s) (c43 : (List Int) → Int → Option (List (List Int))) (Hc43 : ∀ (row_890 : (List Int)) (z_891 : Int) (s : Nat → V), Facts [(1, (.ref (.bx 1) 0 [] (.agg [(.int .i64 g_1.1), (Enc.enc (g_1.2 : List (Int × Int)))]))), (2, (.sl .nl (Enc.shp (List Int)) 0 [])), (3, (encO (.at 3 []) (.of (out_305 : List (List Int))))), (4, (.int .i64 x_306)), (5, (encO (.at 5 []) (.of (row_890 : List Int)))), (7, (.int .i64 d_715)), (8, (.int .i64 y_847)), (9, (.int .i64 z_891))] s → c43 row_890 z_891 = some r → Run D σ (R71 r) (.run A71_21 [.lp A71_21, .bk 8, .bk 7, .sq A71_26, .lp A71_17, .bk 6, .bk 5, .sq A71_27, .lp A71_13, .bk 4, .sq A71_28, .bk 1, .sq A71_29, .lp A71_1, .bk 0, .sq A71_30]) s) (t66_905 : Bool) (s : Nat → V) (hs : Facts [(1, (.ref (.bx 1) 0 [] (.agg [(.int .i64 g_1.1), (Enc.enc (g_1.2 : List (Int × Int)))]))), (2, (.sl .nl (Enc.shp (List Int)) 0 [])), (3, (encO (.at 3 []) (.of (out_305 : List (List Int))))), (4, (.int .i64 x_306)), (5, (encO (.at 5 []) (.of (row_890 : List Int)))), (7, (.int .i64 d_715)), (8, (.int .i64 y_847)), (9, (.int .i64 z_891)), (66, (.bool t66_905))] s) (h : s_l2Dist_j2 F g_1 out_305 x_306 row_890 d_715 y_847 z_891 c1 c31 c40 c43 t66_905 = some r) : Run D σ (R71 r) (.nrm [.sq A71_24, .bk 9, .sq A71_25, .lp A71_21, .bk 8, .bk 7, .sq A71_26, .lp A71_17, .bk 6, .bk 5, .sq A71_27, .lp A71_13, .bk 4, .sq A71_28, .bk 1, .sq A71_29, .lp A71_1, .bk 0, .sq A71_30]) s := by
  unfold s_l2Dist_j2 at h
  obtain ⟨h1, h2, h3, h4, h5, h7, h8, h9, h66⟩ := hs
  refine .nsq ?_
  refine run_cond (t := t66_905) h66 h (fun h => ?_) (fun h => ?_)
  · refine run_reg ?_
    refine e_end ?_
    refine g_v1 (t := 5) (u := (encO (.at 5 []) (.of (row_890 : List Int)))) (encO (.at 5 []) (.of (row_890 : List Int))) h5 rfl rfl ?_
    refine g_v1 (t := 9) (u := (.int .i64 z_891)) (.int .i64 z_891) h9 rfl rfl ?_
    refine g_v1 (t := 7) (u := (.int .i64 d_715)) (.int .i64 d_715) h7 rfl rfl ?_
    refine g_v1 (t := 69) (u := (.int .i64 d_715)) (.int .i64 (w64 (d_715 + 1))) rfl rfl rfl ?_
    obtain ⟨e_908, E_e_908, h⟩ := bind_some h
    refine g_v (.ref (.at 5 []) z_891.toNat [] (.int .i64 e_908)) (ev_idxO (o := (.of row_890)) rfl rfl E_e_908 rfl) ?_
    refine g_store (.int .i64 (w64 (d_715 + 1))) (rd_of rfl rfl) (rd_of rfl rfl) (by refine ⟨by decide, by decide, rfl, rfl, rfl, ?_⟩; first | rfl | simp [V.toks, V.tokss, Enc.toks_enc]) ?_
    refine g_end ?_
    refine e_end ?_
    refine renew [(1, (.ref (.bx 1) 0 [] (.agg [(.int .i64 g_1.1), (Enc.enc (g_1.2 : List (Int × Int)))]))), (2, (.sl .nl (Enc.shp (List Int)) 0 [])), (3, (encO (.at 3 []) (.of (out_305 : List (List Int))))), (4, (.int .i64 x_306)), (5, (encO (.at 5 []) (.of (row_890.set z_891.toNat (w64 (d_715 + 1)) : List Int)))), (7, (.int .i64 d_715)), (8, (.int .i64 y_847)), (9, (.int .i64 z_891))] ⟨(keep_mut h1 (mut_ref_ne rfl rfl (mut_agg (muts_cons rfl (muts_cons (Enc.mut_enc _ _ _ _ (g_1.2 : List (Int × Int))) rfl))))), (keep_mut h2 rfl), (keep_mut h3 (mut_own_ne rfl rfl)), (keep_mut h4 rfl), (keep_mut h5 mut_own), (keep_mut h7 rfl), (keep_mut h8 rfl), (keep_mut h9 rfl)⟩ ?_
    rintro s ⟨h1, h2, h3, h4, h5, h7, h8, h9⟩
    exact t_f71_j1 H g_1 out_305 x_306 d_715 y_847 z_891 c1 Hc1 c31 Hc31 c40 Hc40 c43 Hc43 (row_890.set z_891.toNat (w64 (d_715 + 1))) _ ⟨h1, h2, h3, h4, h5, h7, h8, h9⟩ h
  · refine .skip ?_
    exact t_f71_j1 H g_1 out_305 x_306 d_715 y_847 z_891 c1 Hc1 c31 Hc31 c40 Hc40 c43 Hc43 row_890 _ ⟨h1, h2, h3, h4, h5, h7, h8, h9⟩ h
def s_l2Dist_l1 (F : Nat) (g_1 : (Int × (List (Int × Int)))) (out_305 : (List (List Int))) (x_306 : Int) (d_715 : Int) (y_847 : Int) (c1 : (List (List Int)) → Int → Option (List (List Int))) (c31 : (List Int) → Int → Option (List (List Int))) (c40 : (List Int) → Int → Option (List (List Int))) : Nat → (List Int) → Int → Option (List (List Int))
  | 0, _, _ => none
  | k + 1, row_890, z_891 =>
    bif decide (z_891 < g_1.1) then
      (idx row_890 y_847).bind fun e_909 =>
      bif (e_909 == d_715) then
        (idx row_890 z_891).bind fun e_910 =>
        bif decide (e_910 < 0) then
          (s_l2Near F g_1 y_847 z_891).bind fun r_911 =>
          s_l2Dist_j2 F g_1 out_305 x_306 row_890 d_715 y_847 z_891 c1 c31 c40 (s_l2Dist_l1 F g_1 out_305 x_306 d_715 y_847 c1 c31 c40 k) r_911
        else
          s_l2Dist_j2 F g_1 out_305 x_306 row_890 d_715 y_847 z_891 c1 c31 c40 (s_l2Dist_l1 F g_1 out_305 x_306 d_715 y_847 c1 c31 c40 k) false
      else
        s_l2Dist_j2 F g_1 out_305 x_306 row_890 d_715 y_847 z_891 c1 c31 c40 (s_l2Dist_l1 F g_1 out_305 x_306 d_715 y_847 c1 c31 c40 k) false
    else
      c40 row_890 (w64 (y_847 + 1))
theorem t_f71_l1 (H : H71 D σ F) (g_1 : (Int × (List (Int × Int)))) (out_305 : (List (List Int))) (x_306 : Int) (d_715 : Int) (y_847 : Int) (c1 : (List (List Int)) → Int → Option (List (List Int))) (Hc1 : ∀ (out_305 : (List (List Int))) (x_306 : Int) (s : Nat → V), Facts [(1, (.ref (.bx 1) 0 [] (.agg [(.int .i64 g_1.1), (Enc.enc (g_1.2 : List (Int × Int)))]))), (2, (.sl .nl (Enc.shp (List Int)) 0 [])), (3, (encO (.at 3 []) (.of (out_305 : List (List Int))))), (4, (.int .i64 x_306))] s → c1 out_305 x_306 = some r → Run D σ (R71 r) (.run A71_1 [.lp A71_1, .bk 0, .sq A71_30]) s) (c31 : (List Int) → Int → Option (List (List Int))) (Hc31 : ∀ (row_714 : (List Int)) (d_715 : Int) (s : Nat → V), Facts [(1, (.ref (.bx 1) 0 [] (.agg [(.int .i64 g_1.1), (Enc.enc (g_1.2 : List (Int × Int)))]))), (2, (.sl .nl (Enc.shp (List Int)) 0 [])), (3, (encO (.at 3 []) (.of (out_305 : List (List Int))))), (4, (.int .i64 x_306)), (5, (encO (.at 5 []) (.of (row_714 : List Int)))), (7, (.int .i64 d_715))] s → c31 row_714 d_715 = some r → Run D σ (R71 r) (.run A71_13 [.lp A71_13, .bk 4, .sq A71_28, .bk 1, .sq A71_29, .lp A71_1, .bk 0, .sq A71_30]) s) (c40 : (List Int) → Int → Option (List (List Int))) (Hc40 : ∀ (row_846 : (List Int)) (y_847 : Int) (s : Nat → V), Facts [(1, (.ref (.bx 1) 0 [] (.agg [(.int .i64 g_1.1), (Enc.enc (g_1.2 : List (Int × Int)))]))), (2, (.sl .nl (Enc.shp (List Int)) 0 [])), (3, (encO (.at 3 []) (.of (out_305 : List (List Int))))), (4, (.int .i64 x_306)), (5, (encO (.at 5 []) (.of (row_846 : List Int)))), (7, (.int .i64 d_715)), (8, (.int .i64 y_847))] s → c40 row_846 y_847 = some r → Run D σ (R71 r) (.run A71_17 [.lp A71_17, .bk 6, .bk 5, .sq A71_27, .lp A71_13, .bk 4, .sq A71_28, .bk 1, .sq A71_29, .lp A71_1, .bk 0, .sq A71_30]) s) : ∀ (k : Nat) (row_890 : (List Int)) (z_891 : Int) (s : Nat → V), Facts [(1, (.ref (.bx 1) 0 [] (.agg [(.int .i64 g_1.1), (Enc.enc (g_1.2 : List (Int × Int)))]))), (2, (.sl .nl (Enc.shp (List Int)) 0 [])), (3, (encO (.at 3 []) (.of (out_305 : List (List Int))))), (4, (.int .i64 x_306)), (5, (encO (.at 5 []) (.of (row_890 : List Int)))), (7, (.int .i64 d_715)), (8, (.int .i64 y_847)), (9, (.int .i64 z_891))] s → s_l2Dist_l1 F g_1 out_305 x_306 d_715 y_847 c1 c31 c40 k row_890 z_891 = some r → Run D σ (R71 r) (.run A71_21 [.lp A71_21, .bk 8, .bk 7, .sq A71_26, .lp A71_17, .bk 6, .bk 5, .sq A71_27, .lp A71_13, .bk 4, .sq A71_28, .bk 1, .sq A71_29, .lp A71_1, .bk 0, .sq A71_30]) s := by
  intro k
  induction k with
  | zero => intro row_890 z_891 s _ h; exact nomatch (h : (none : Option _) = some r)
  | succ k ih =>
    intro row_890 z_891 s hs h
    rw [s_l2Dist_l1] at h
    obtain ⟨h1, h2, h3, h4, h5, h7, h8, h9⟩ := hs
    refine .seq ?_
    refine .seq ?_
    refine run_reg ?_
    refine e_end ?_
    refine g_v1 (t := 9) (u := (.int .i64 z_891)) (.int .i64 z_891) h9 rfl rfl ?_
    refine g_v1 (t := 1) (u := (.ref (.bx 1) 0 [] (.agg [(.int .i64 g_1.1), (Enc.enc (g_1.2 : List (Int × Int)))]))) (.ref (.bx 1) 0 [0] (.int .i64 g_1.1)) h1 rfl rfl ?_
    refine g_v1 (t := 43) (u := (.ref (.bx 1) 0 [0] (.int .i64 g_1.1))) (.int .i64 g_1.1) rfl rfl rfl ?_
    refine g_v2 (t1 := 42) (t2 := 44) (u1 := (.int .i64 z_891)) (u2 := (.int .i64 g_1.1)) (.bool (decide (z_891 < g_1.1))) rfl rfl rfl rfl ?_
    refine g_end ?_
    refine e_end ?_
    refine renew [(1, (.ref (.bx 1) 0 [] (.agg [(.int .i64 g_1.1), (Enc.enc (g_1.2 : List (Int × Int)))]))), (2, (.sl .nl (Enc.shp (List Int)) 0 [])), (3, (encO (.at 3 []) (.of (out_305 : List (List Int))))), (4, (.int .i64 x_306)), (5, (encO (.at 5 []) (.of (row_890 : List Int)))), (7, (.int .i64 d_715)), (8, (.int .i64 y_847)), (9, (.int .i64 z_891)), (45, (.bool (decide (z_891 < g_1.1))))] ⟨h1, h2, h3, h4, h5, h7, h8, h9, rfl⟩ ?_
    rintro s ⟨h1, h2, h3, h4, h5, h7, h8, h9, h45⟩
    refine .nsq ?_
    refine run_cond (t := decide (z_891 < g_1.1)) h45 h (fun h => ?_) (fun h => ?_)
    · refine .skip ?_
      refine .nsq ?_
      refine .seq ?_
      refine .block ?_
      refine .seq ?_
      refine run_reg ?_
      refine e_end ?_
      refine g_v1 (t := 5) (u := (encO (.at 5 []) (.of (row_890 : List Int)))) (encO (.at 5 []) (.of (row_890 : List Int))) h5 rfl rfl ?_
      refine g_v1 (t := 8) (u := (.int .i64 y_847)) (.int .i64 y_847) h8 rfl rfl ?_
      obtain ⟨e_909, E_e_909, h⟩ := bind_some h
      refine g_v (.ref (.at 5 []) y_847.toNat [] (.int .i64 e_909)) (ev_idxO (o := (.of row_890)) rfl rfl E_e_909 rfl) ?_
      refine g_v1 (t := 50) (u := (.ref (.at 5 []) y_847.toNat [] (.int .i64 e_909))) (.int .i64 e_909) rfl rfl rfl ?_
      refine g_v1 (t := 7) (u := (.int .i64 d_715)) (.int .i64 d_715) h7 rfl rfl ?_
      refine g_v2 (t1 := 51) (t2 := 52) (u1 := (.int .i64 e_909)) (u2 := (.int .i64 d_715)) (.bool (e_909 == d_715)) rfl rfl rfl rfl ?_
      refine g_v1 (t := 53) (u := (.bool (e_909 == d_715))) (.bool (e_909 == d_715)) rfl rfl rfl ?_
      refine split_on (c := (e_909 == d_715)) h (fun hg7 h => ?_) (fun hg7 h => ?_)
      · refine g_yes (Eq.trans (b := .bool (e_909 == d_715)) rfl (congrArg V.bool hg7)) (g_v1 (t := 5) (u := (encO (.at 5 []) (.of (row_890 : List Int)))) (encO (.at 5 []) (.of (row_890 : List Int))) h5 rfl rfl ?_)
        refine g_yes (Eq.trans (b := .bool (e_909 == d_715)) rfl (congrArg V.bool hg7)) (g_v1 (t := 9) (u := (.int .i64 z_891)) (.int .i64 z_891) h9 rfl rfl ?_)
        obtain ⟨e_910, E_e_910, h⟩ := bind_some h
        refine g_yes (Eq.trans (b := .bool (e_909 == d_715)) rfl (congrArg V.bool hg7)) (g_v (.ref (.at 5 []) z_891.toNat [] (.int .i64 e_910)) (ev_idxO (o := (.of row_890)) rfl rfl E_e_910 rfl) ?_)
        refine g_yes (Eq.trans (b := .bool (e_909 == d_715)) rfl (congrArg V.bool hg7)) (g_v1 (t := 57) (u := (.ref (.at 5 []) z_891.toNat [] (.int .i64 e_910))) (.int .i64 e_910) rfl rfl rfl ?_)
        refine g_yes (Eq.trans (b := .bool (e_909 == d_715)) rfl (congrArg V.bool hg7)) (g_v1 (t := 58) (u := (.int .i64 e_910)) (.bool (decide (e_910 < 0))) rfl rfl rfl ?_)
        refine g_v2 (t1 := 54) (t2 := 59) (u1 := (.bool true)) (u2 := (.bool (decide (e_910 < 0)))) (.bool (decide (e_910 < 0))) (Eq.trans (b := .bool (e_909 == d_715)) rfl (congrArg V.bool hg7)) rfl rfl rfl ?_
        refine g_v1 (t := 60) (u := (.bool (decide (e_910 < 0)))) (.bool (decide (e_910 < 0))) rfl rfl rfl ?_
        refine split_on (c := decide (e_910 < 0)) h (fun hg14 h => ?_) (fun hg14 h => ?_)
        · refine g_yes (Eq.trans (b := .bool (decide (e_910 < 0))) rfl (congrArg V.bool hg14)) (g_v1 (t := 1) (u := (.ref (.bx 1) 0 [] (.agg [(.int .i64 g_1.1), (Enc.enc (g_1.2 : List (Int × Int)))]))) (.agg [(.int .i64 g_1.1), (Enc.enc (g_1.2 : List (Int × Int)))]) h1 rfl rfl ?_)
          refine g_yes (Eq.trans (b := .bool (decide (e_910 < 0))) rfl (congrArg V.bool hg14)) (g_v1 (t := 8) (u := (.int .i64 y_847)) (.int .i64 y_847) h8 rfl rfl ?_)
          refine g_yes (Eq.trans (b := .bool (decide (e_910 < 0))) rfl (congrArg V.bool hg14)) (g_v1 (t := 9) (u := (.int .i64 z_891)) (.int .i64 z_891) h9 rfl rfl ?_)
          obtain ⟨r_911, E_r_911, h⟩ := bind_some h
          refine g_yes (Eq.trans (b := .bool (decide (e_910 < 0))) rfl (congrArg V.bool hg14)) (g_call (m := 0) (al := false) (r := (Enc.enc (r_911 : Bool))) [Enc.enc (g_1 : (Int × (List (Int × Int)))), Enc.enc (y_847 : Int), Enc.enc (z_891 : Int)] (ta_cons (v := (.agg [(.int .i64 g_1.1), (Enc.enc (g_1.2 : List (Int × Int)))])) rfl rfl (Enc.erase_enc (g_1 : (Int × (List (Int × Int))))) (ta_cons (v := (.int .i64 y_847)) rfl rfl rfl (ta_cons (v := (.int .i64 z_891)) rfl rfl rfl ta_nil))) (H.c68 _ _ _ _ E_r_911) H.g68 rfl rfl rfl rfl ?_)
          refine g_v2 (t1 := 61) (t2 := 65) (u1 := (.bool true)) (u2 := (.bool r_911)) (.bool r_911) (Eq.trans (b := .bool (decide (e_910 < 0))) rfl (congrArg V.bool hg14)) rfl rfl rfl ?_
          refine g_end ?_
          refine e_end ?_
          refine renew [(1, (.ref (.bx 1) 0 [] (.agg [(.int .i64 g_1.1), (Enc.enc (g_1.2 : List (Int × Int)))]))), (2, (.sl .nl (Enc.shp (List Int)) 0 [])), (3, (encO (.at 3 []) (.of (out_305 : List (List Int))))), (4, (.int .i64 x_306)), (5, (encO (.at 5 []) (.of (row_890 : List Int)))), (7, (.int .i64 d_715)), (8, (.int .i64 y_847)), (9, (.int .i64 z_891)), (66, (.bool r_911))] ⟨h1, h2, h3, h4, h5, h7, h8, h9, rfl⟩ ?_
          rintro s ⟨h1, h2, h3, h4, h5, h7, h8, h9, h66⟩
          exact t_f71_j2 H g_1 out_305 x_306 row_890 d_715 y_847 z_891 c1 Hc1 c31 Hc31 c40 Hc40 (s_l2Dist_l1 F g_1 out_305 x_306 d_715 y_847 c1 c31 c40 k) ih r_911 _ ⟨h1, h2, h3, h4, h5, h7, h8, h9, h66⟩ h
        · refine g_no (Eq.trans (b := .bool (decide (e_910 < 0))) rfl (congrArg V.bool hg14)) ?_
          refine g_no (Eq.trans (b := .bool (decide (e_910 < 0))) rfl (congrArg V.bool hg14)) ?_
          refine g_no (Eq.trans (b := .bool (decide (e_910 < 0))) rfl (congrArg V.bool hg14)) ?_
          refine g_no (Eq.trans (b := .bool (decide (e_910 < 0))) rfl (congrArg V.bool hg14)) ?_
          refine g_v2 (t1 := 61) (t2 := 65) (u1 := (.bool false)) (u2 := (.tup [])) (.bool false) (Eq.trans (b := .bool (decide (e_910 < 0))) rfl (congrArg V.bool hg14)) rfl rfl rfl ?_
          refine g_end ?_
          refine e_end ?_
          refine renew [(1, (.ref (.bx 1) 0 [] (.agg [(.int .i64 g_1.1), (Enc.enc (g_1.2 : List (Int × Int)))]))), (2, (.sl .nl (Enc.shp (List Int)) 0 [])), (3, (encO (.at 3 []) (.of (out_305 : List (List Int))))), (4, (.int .i64 x_306)), (5, (encO (.at 5 []) (.of (row_890 : List Int)))), (7, (.int .i64 d_715)), (8, (.int .i64 y_847)), (9, (.int .i64 z_891)), (66, (.bool false))] ⟨h1, h2, h3, h4, h5, h7, h8, h9, rfl⟩ ?_
          rintro s ⟨h1, h2, h3, h4, h5, h7, h8, h9, h66⟩
          exact t_f71_j2 H g_1 out_305 x_306 row_890 d_715 y_847 z_891 c1 Hc1 c31 Hc31 c40 Hc40 (s_l2Dist_l1 F g_1 out_305 x_306 d_715 y_847 c1 c31 c40 k) ih false _ ⟨h1, h2, h3, h4, h5, h7, h8, h9, h66⟩ h
      · refine g_no (Eq.trans (b := .bool (e_909 == d_715)) rfl (congrArg V.bool hg7)) ?_
        refine g_no (Eq.trans (b := .bool (e_909 == d_715)) rfl (congrArg V.bool hg7)) ?_
        refine g_no (Eq.trans (b := .bool (e_909 == d_715)) rfl (congrArg V.bool hg7)) ?_
        refine g_no (Eq.trans (b := .bool (e_909 == d_715)) rfl (congrArg V.bool hg7)) ?_
        refine g_no (Eq.trans (b := .bool (e_909 == d_715)) rfl (congrArg V.bool hg7)) ?_
        refine g_v2 (t1 := 54) (t2 := 59) (u1 := (.bool false)) (u2 := (.tup [])) (.bool false) (Eq.trans (b := .bool (e_909 == d_715)) rfl (congrArg V.bool hg7)) rfl rfl rfl ?_
        refine g_v1 (t := 60) (u := (.bool false)) (.bool false) rfl rfl rfl ?_
        refine g_no rfl ?_
        refine g_no rfl ?_
        refine g_no rfl ?_
        refine g_no rfl ?_
        refine g_v2 (t1 := 61) (t2 := 65) (u1 := (.bool false)) (u2 := (.tup [])) (.bool false) rfl rfl rfl rfl ?_
        refine g_end ?_
        refine e_end ?_
        refine renew [(1, (.ref (.bx 1) 0 [] (.agg [(.int .i64 g_1.1), (Enc.enc (g_1.2 : List (Int × Int)))]))), (2, (.sl .nl (Enc.shp (List Int)) 0 [])), (3, (encO (.at 3 []) (.of (out_305 : List (List Int))))), (4, (.int .i64 x_306)), (5, (encO (.at 5 []) (.of (row_890 : List Int)))), (7, (.int .i64 d_715)), (8, (.int .i64 y_847)), (9, (.int .i64 z_891)), (66, (.bool false))] ⟨h1, h2, h3, h4, h5, h7, h8, h9, rfl⟩ ?_
        rintro s ⟨h1, h2, h3, h4, h5, h7, h8, h9, h66⟩
        exact t_f71_j2 H g_1 out_305 x_306 row_890 d_715 y_847 z_891 c1 Hc1 c31 Hc31 c40 Hc40 (s_l2Dist_l1 F g_1 out_305 x_306 d_715 y_847 c1 c31 c40 k) ih false _ ⟨h1, h2, h3, h4, h5, h7, h8, h9, h66⟩ h
    · refine .exit ?_
      refine .esq ?_
      refine .elp ?_
      refine .ebk ?_
      refine .nbk ?_
      refine .nsq ?_
      refine run_reg ?_
      refine e_end ?_
      refine g_v1 (t := 8) (u := (.int .i64 y_847)) (.int .i64 y_847) h8 rfl rfl ?_
      refine g_v1 (t := 40) (u := (.int .i64 y_847)) (.int .i64 (w64 (y_847 + 1))) rfl rfl rfl ?_
      refine g_v1 (t := 41) (u := (.int .i64 (w64 (y_847 + 1)))) (.int .i64 (w64 (y_847 + 1))) rfl rfl rfl ?_
      refine g_end ?_
      refine e_end ?_
      refine renew [(1, (.ref (.bx 1) 0 [] (.agg [(.int .i64 g_1.1), (Enc.enc (g_1.2 : List (Int × Int)))]))), (2, (.sl .nl (Enc.shp (List Int)) 0 [])), (3, (encO (.at 3 []) (.of (out_305 : List (List Int))))), (4, (.int .i64 x_306)), (5, (encO (.at 5 []) (.of (row_890 : List Int)))), (7, (.int .i64 d_715)), (8, (.int .i64 (w64 (y_847 + 1))))] ⟨h1, h2, h3, h4, h5, h7, rfl⟩ ?_
      rintro s ⟨h1, h2, h3, h4, h5, h7, h8⟩
      refine .nlp ?_
      exact Hc40 row_890 (w64 (y_847 + 1)) _ ⟨h1, h2, h3, h4, h5, h7, h8⟩ h
def s_l2Dist_l2 (F : Nat) (g_1 : (Int × (List (Int × Int)))) (out_305 : (List (List Int))) (x_306 : Int) (d_715 : Int) (c1 : (List (List Int)) → Int → Option (List (List Int))) (c31 : (List Int) → Int → Option (List (List Int))) : Nat → (List Int) → Int → Option (List (List Int))
  | 0, _, _ => none
  | k + 1, row_846, y_847 =>
    bif decide (y_847 < g_1.1) then
      s_l2Dist_l1 F g_1 out_305 x_306 d_715 y_847 c1 c31 (s_l2Dist_l2 F g_1 out_305 x_306 d_715 c1 c31 k) F row_846 0
    else
      c31 row_846 (w64 (d_715 + 1))
theorem t_f71_l2 (H : H71 D σ F) (g_1 : (Int × (List (Int × Int)))) (out_305 : (List (List Int))) (x_306 : Int) (d_715 : Int) (c1 : (List (List Int)) → Int → Option (List (List Int))) (Hc1 : ∀ (out_305 : (List (List Int))) (x_306 : Int) (s : Nat → V), Facts [(1, (.ref (.bx 1) 0 [] (.agg [(.int .i64 g_1.1), (Enc.enc (g_1.2 : List (Int × Int)))]))), (2, (.sl .nl (Enc.shp (List Int)) 0 [])), (3, (encO (.at 3 []) (.of (out_305 : List (List Int))))), (4, (.int .i64 x_306))] s → c1 out_305 x_306 = some r → Run D σ (R71 r) (.run A71_1 [.lp A71_1, .bk 0, .sq A71_30]) s) (c31 : (List Int) → Int → Option (List (List Int))) (Hc31 : ∀ (row_714 : (List Int)) (d_715 : Int) (s : Nat → V), Facts [(1, (.ref (.bx 1) 0 [] (.agg [(.int .i64 g_1.1), (Enc.enc (g_1.2 : List (Int × Int)))]))), (2, (.sl .nl (Enc.shp (List Int)) 0 [])), (3, (encO (.at 3 []) (.of (out_305 : List (List Int))))), (4, (.int .i64 x_306)), (5, (encO (.at 5 []) (.of (row_714 : List Int)))), (7, (.int .i64 d_715))] s → c31 row_714 d_715 = some r → Run D σ (R71 r) (.run A71_13 [.lp A71_13, .bk 4, .sq A71_28, .bk 1, .sq A71_29, .lp A71_1, .bk 0, .sq A71_30]) s) : ∀ (k : Nat) (row_846 : (List Int)) (y_847 : Int) (s : Nat → V), Facts [(1, (.ref (.bx 1) 0 [] (.agg [(.int .i64 g_1.1), (Enc.enc (g_1.2 : List (Int × Int)))]))), (2, (.sl .nl (Enc.shp (List Int)) 0 [])), (3, (encO (.at 3 []) (.of (out_305 : List (List Int))))), (4, (.int .i64 x_306)), (5, (encO (.at 5 []) (.of (row_846 : List Int)))), (7, (.int .i64 d_715)), (8, (.int .i64 y_847))] s → s_l2Dist_l2 F g_1 out_305 x_306 d_715 c1 c31 k row_846 y_847 = some r → Run D σ (R71 r) (.run A71_17 [.lp A71_17, .bk 6, .bk 5, .sq A71_27, .lp A71_13, .bk 4, .sq A71_28, .bk 1, .sq A71_29, .lp A71_1, .bk 0, .sq A71_30]) s := by
  intro k
  induction k with
  | zero => intro row_846 y_847 s _ h; exact nomatch (h : (none : Option _) = some r)
  | succ k ih =>
    intro row_846 y_847 s hs h
    rw [s_l2Dist_l2] at h
    obtain ⟨h1, h2, h3, h4, h5, h7, h8⟩ := hs
    refine .seq ?_
    refine .seq ?_
    refine run_reg ?_
    refine e_end ?_
    refine g_v1 (t := 8) (u := (.int .i64 y_847)) (.int .i64 y_847) h8 rfl rfl ?_
    refine g_v1 (t := 1) (u := (.ref (.bx 1) 0 [] (.agg [(.int .i64 g_1.1), (Enc.enc (g_1.2 : List (Int × Int)))]))) (.ref (.bx 1) 0 [0] (.int .i64 g_1.1)) h1 rfl rfl ?_
    refine g_v1 (t := 37) (u := (.ref (.bx 1) 0 [0] (.int .i64 g_1.1))) (.int .i64 g_1.1) rfl rfl rfl ?_
    refine g_v2 (t1 := 36) (t2 := 38) (u1 := (.int .i64 y_847)) (u2 := (.int .i64 g_1.1)) (.bool (decide (y_847 < g_1.1))) rfl rfl rfl rfl ?_
    refine g_end ?_
    refine e_end ?_
    refine renew [(1, (.ref (.bx 1) 0 [] (.agg [(.int .i64 g_1.1), (Enc.enc (g_1.2 : List (Int × Int)))]))), (2, (.sl .nl (Enc.shp (List Int)) 0 [])), (3, (encO (.at 3 []) (.of (out_305 : List (List Int))))), (4, (.int .i64 x_306)), (5, (encO (.at 5 []) (.of (row_846 : List Int)))), (7, (.int .i64 d_715)), (8, (.int .i64 y_847)), (39, (.bool (decide (y_847 < g_1.1))))] ⟨h1, h2, h3, h4, h5, h7, h8, rfl⟩ ?_
    rintro s ⟨h1, h2, h3, h4, h5, h7, h8, h39⟩
    refine .nsq ?_
    refine run_cond (t := decide (y_847 < g_1.1)) h39 h (fun h => ?_) (fun h => ?_)
    · refine .skip ?_
      refine .nsq ?_
      refine .seq ?_
      refine .block ?_
      refine .seq ?_
      refine run_reg ?_
      refine e_end ?_
      refine g_v0 (.int .i64 0) rfl rfl ?_
      refine g_end ?_
      refine e_end ?_
      refine renew [(1, (.ref (.bx 1) 0 [] (.agg [(.int .i64 g_1.1), (Enc.enc (g_1.2 : List (Int × Int)))]))), (2, (.sl .nl (Enc.shp (List Int)) 0 [])), (3, (encO (.at 3 []) (.of (out_305 : List (List Int))))), (4, (.int .i64 x_306)), (5, (encO (.at 5 []) (.of (row_846 : List Int)))), (7, (.int .i64 d_715)), (8, (.int .i64 y_847)), (9, (.int .i64 0))] ⟨h1, h2, h3, h4, h5, h7, h8, rfl⟩ ?_
      rintro s ⟨h1, h2, h3, h4, h5, h7, h8, h9⟩
      refine .nsq ?_
      refine .block ?_
      refine .loop ?_
      exact t_f71_l1 H g_1 out_305 x_306 d_715 y_847 c1 Hc1 c31 Hc31 (s_l2Dist_l2 F g_1 out_305 x_306 d_715 c1 c31 k) ih F row_846 0 _ ⟨h1, h2, h3, h4, h5, h7, h8, h9⟩ h
    · refine .exit ?_
      refine .esq ?_
      refine .elp ?_
      refine .ebk ?_
      refine .nbk ?_
      refine .nsq ?_
      refine run_reg ?_
      refine e_end ?_
      refine g_v1 (t := 7) (u := (.int .i64 d_715)) (.int .i64 d_715) h7 rfl rfl ?_
      refine g_v1 (t := 34) (u := (.int .i64 d_715)) (.int .i64 (w64 (d_715 + 1))) rfl rfl rfl ?_
      refine g_v1 (t := 35) (u := (.int .i64 (w64 (d_715 + 1)))) (.int .i64 (w64 (d_715 + 1))) rfl rfl rfl ?_
      refine g_end ?_
      refine e_end ?_
      refine renew [(1, (.ref (.bx 1) 0 [] (.agg [(.int .i64 g_1.1), (Enc.enc (g_1.2 : List (Int × Int)))]))), (2, (.sl .nl (Enc.shp (List Int)) 0 [])), (3, (encO (.at 3 []) (.of (out_305 : List (List Int))))), (4, (.int .i64 x_306)), (5, (encO (.at 5 []) (.of (row_846 : List Int)))), (7, (.int .i64 (w64 (d_715 + 1))))] ⟨h1, h2, h3, h4, h5, rfl⟩ ?_
      rintro s ⟨h1, h2, h3, h4, h5, h7⟩
      refine .nlp ?_
      exact Hc31 row_846 (w64 (d_715 + 1)) _ ⟨h1, h2, h3, h4, h5, h7⟩ h
def s_l2Dist_l3 (F : Nat) (g_1 : (Int × (List (Int × Int)))) (out_305 : (List (List Int))) (x_306 : Int) (c1 : (List (List Int)) → Int → Option (List (List Int))) : Nat → (List Int) → Int → Option (List (List Int))
  | 0, _, _ => none
  | k + 1, row_714, d_715 =>
    bif decide (d_715 < g_1.1) then
      s_l2Dist_l2 F g_1 out_305 x_306 d_715 c1 (s_l2Dist_l3 F g_1 out_305 x_306 c1 k) F row_714 0
    else
      (appL out_305 [row_714]).bind fun ap_912 =>
      c1 ap_912 (w64 (x_306 + 1))
theorem t_f71_l3 (H : H71 D σ F) (g_1 : (Int × (List (Int × Int)))) (out_305 : (List (List Int))) (x_306 : Int) (c1 : (List (List Int)) → Int → Option (List (List Int))) (Hc1 : ∀ (out_305 : (List (List Int))) (x_306 : Int) (s : Nat → V), Facts [(1, (.ref (.bx 1) 0 [] (.agg [(.int .i64 g_1.1), (Enc.enc (g_1.2 : List (Int × Int)))]))), (2, (.sl .nl (Enc.shp (List Int)) 0 [])), (3, (encO (.at 3 []) (.of (out_305 : List (List Int))))), (4, (.int .i64 x_306))] s → c1 out_305 x_306 = some r → Run D σ (R71 r) (.run A71_1 [.lp A71_1, .bk 0, .sq A71_30]) s) : ∀ (k : Nat) (row_714 : (List Int)) (d_715 : Int) (s : Nat → V), Facts [(1, (.ref (.bx 1) 0 [] (.agg [(.int .i64 g_1.1), (Enc.enc (g_1.2 : List (Int × Int)))]))), (2, (.sl .nl (Enc.shp (List Int)) 0 [])), (3, (encO (.at 3 []) (.of (out_305 : List (List Int))))), (4, (.int .i64 x_306)), (5, (encO (.at 5 []) (.of (row_714 : List Int)))), (7, (.int .i64 d_715))] s → s_l2Dist_l3 F g_1 out_305 x_306 c1 k row_714 d_715 = some r → Run D σ (R71 r) (.run A71_13 [.lp A71_13, .bk 4, .sq A71_28, .bk 1, .sq A71_29, .lp A71_1, .bk 0, .sq A71_30]) s := by
  intro k
  induction k with
  | zero => intro row_714 d_715 s _ h; exact nomatch (h : (none : Option _) = some r)
  | succ k ih =>
    intro row_714 d_715 s hs h
    rw [s_l2Dist_l3] at h
    obtain ⟨h1, h2, h3, h4, h5, h7⟩ := hs
    refine .seq ?_
    refine .seq ?_
    refine run_reg ?_
    refine e_end ?_
    refine g_v1 (t := 7) (u := (.int .i64 d_715)) (.int .i64 d_715) h7 rfl rfl ?_
    refine g_v1 (t := 1) (u := (.ref (.bx 1) 0 [] (.agg [(.int .i64 g_1.1), (Enc.enc (g_1.2 : List (Int × Int)))]))) (.ref (.bx 1) 0 [0] (.int .i64 g_1.1)) h1 rfl rfl ?_
    refine g_v1 (t := 31) (u := (.ref (.bx 1) 0 [0] (.int .i64 g_1.1))) (.int .i64 g_1.1) rfl rfl rfl ?_
    refine g_v2 (t1 := 30) (t2 := 32) (u1 := (.int .i64 d_715)) (u2 := (.int .i64 g_1.1)) (.bool (decide (d_715 < g_1.1))) rfl rfl rfl rfl ?_
    refine g_end ?_
    refine e_end ?_
    refine renew [(1, (.ref (.bx 1) 0 [] (.agg [(.int .i64 g_1.1), (Enc.enc (g_1.2 : List (Int × Int)))]))), (2, (.sl .nl (Enc.shp (List Int)) 0 [])), (3, (encO (.at 3 []) (.of (out_305 : List (List Int))))), (4, (.int .i64 x_306)), (5, (encO (.at 5 []) (.of (row_714 : List Int)))), (7, (.int .i64 d_715)), (33, (.bool (decide (d_715 < g_1.1))))] ⟨h1, h2, h3, h4, h5, h7, rfl⟩ ?_
    rintro s ⟨h1, h2, h3, h4, h5, h7, h33⟩
    refine .nsq ?_
    refine run_cond (t := decide (d_715 < g_1.1)) h33 h (fun h => ?_) (fun h => ?_)
    · refine .skip ?_
      refine .nsq ?_
      refine .seq ?_
      refine .block ?_
      refine .seq ?_
      refine run_reg ?_
      refine e_end ?_
      refine g_v0 (.int .i64 0) rfl rfl ?_
      refine g_end ?_
      refine e_end ?_
      refine renew [(1, (.ref (.bx 1) 0 [] (.agg [(.int .i64 g_1.1), (Enc.enc (g_1.2 : List (Int × Int)))]))), (2, (.sl .nl (Enc.shp (List Int)) 0 [])), (3, (encO (.at 3 []) (.of (out_305 : List (List Int))))), (4, (.int .i64 x_306)), (5, (encO (.at 5 []) (.of (row_714 : List Int)))), (7, (.int .i64 d_715)), (8, (.int .i64 0))] ⟨h1, h2, h3, h4, h5, h7, rfl⟩ ?_
      rintro s ⟨h1, h2, h3, h4, h5, h7, h8⟩
      refine .nsq ?_
      refine .block ?_
      refine .loop ?_
      exact t_f71_l2 H g_1 out_305 x_306 d_715 c1 Hc1 (s_l2Dist_l3 F g_1 out_305 x_306 c1 k) ih F row_714 0 _ ⟨h1, h2, h3, h4, h5, h7, h8⟩ h
    · refine .exit ?_
      refine .esq ?_
      refine .elp ?_
      refine .ebk ?_
      refine .nsq ?_
      refine run_reg ?_
      refine e_clr ?_
      refine e_frz (x := 5) (v := (encO (.at 5 []) (.of (row_714 : List Int)))) [(.at 5 [])] (by exact (keep_clear (s := s) (pk := [74, 75]) h5 rfl (map_encO (r := 5) (p := []) rfl rfl))) toks_ownL (fun s_46 hg_46 => ?_)
      refine e_end ?_
      refine g_v1 (t := 3) (u := (encO (.at 3 []) (.of (out_305 : List (List Int))))) (encO (.at 3 []) (.of (out_305 : List (List Int)))) (hg_46 3 (encO (.at 3 []) (.of (out_305 : List (List Int)))) (encO (.at 3 []) (.of (out_305 : List (List Int)))) (keep_clear (s := s) (pk := [74, 75]) h3 rfl (map_encO (r := 3) (p := []) rfl rfl)) (frz_own_ne rfl rfl)) rfl rfl ?_
      refine g_v1 (t := 5) (u := (Enc.enc (row_714 : List Int))) (Enc.enc (row_714 : List Int)) (hg_46 5 (encO (.at 5 []) (.of (row_714 : List Int))) (Enc.enc (row_714 : List Int)) (keep_clear (s := s) (pk := [74, 75]) h5 rfl (map_encO (r := 5) (p := []) rfl rfl)) frz_own) rfl rfl ?_
      refine g_litL [(73, (Enc.enc (row_714 : List Int)))] [Enc.enc (row_714 : (List Int))] rfl rfl rfl (hg_46 74 .gone .gone (gone_clear (s := s) (pk := [74, 75]) (t := 74) rfl) rfl) ?_
      obtain ⟨ap_912, E_ap_912, h⟩ := bind_some h
      refine g_app (q := 3) (p := []) (o := (.of (out_305 : List (List Int)))) (ys := ([row_714] : List (List Int))) (t2 := (.at 74 [])) (lo2 := 0) rfl rfl rfl (hg_46 75 .gone .gone (gone_clear (s := s) (pk := [74, 75]) (t := 75) rfl) rfl) (appN_L (o := (.of (out_305 : List (List Int)))) E_ap_912 trivial) (fun s_47 ha_47 => ?_)
      refine g_v1 (t := 75) (u := (encO (.at 75 []) (.of (ap_912 : List (List Int))))) (encO (.at 75 []) (.of (ap_912 : List (List Int)))) rfl rfl rfl ?_
      refine g_end ?_
      refine e_home (r := 75) (x := 3) (v := (encO (.at 75 []) (.of (ap_912 : List (List Int))))) (by exact rfl) rfl (fun s_48 hg_48 => ?_)
      refine e_end ?_
      refine renew [(1, (.ref (.bx 1) 0 [] (.agg [(.int .i64 g_1.1), (Enc.enc (g_1.2 : List (Int × Int)))]))), (2, (.sl .nl (Enc.shp (List Int)) 0 [])), (3, (encO (.at 3 []) (.of (ap_912 : List (List Int))))), (4, (.int .i64 x_306))] ⟨(hg_48 1 (.ref (.bx 1) 0 [] (.agg [(.int .i64 g_1.1), (Enc.enc (g_1.2 : List (Int × Int)))])) (.ref (.bx 1) 0 [] (.agg [(.int .i64 g_1.1), (Enc.enc (g_1.2 : List (Int × Int)))])) (show s_47 1 = (.ref (.bx 1) 0 [] (.agg [(.int .i64 g_1.1), (Enc.enc (g_1.2 : List (Int × Int)))])) from keep_app ha_47 (hg_46 1 (.ref (.bx 1) 0 [] (.agg [(.int .i64 g_1.1), (Enc.enc (g_1.2 : List (Int × Int)))])) (.ref (.bx 1) 0 [] (.agg [(.int .i64 g_1.1), (Enc.enc (g_1.2 : List (Int × Int)))])) (keep_clear (s := s) (pk := [74, 75]) h1 rfl (map_bx rfl (map_agg (maps_cons rfl (maps_cons (Enc.map_enc _ (g_1.2 : List (Int × Int))) maps_nil))))) (frz_ref_ne rfl (frz_agg (frzs_cons rfl (frzs_cons (Enc.frz_enc _ (g_1.2 : List (Int × Int))) rfl))) rfl)) (map_bx rfl (map_agg (maps_cons rfl (maps_cons (Enc.map_enc _ (g_1.2 : List (Int × Int))) maps_nil))))) (map_bx rfl (map_agg (maps_cons rfl (maps_cons (Enc.map_enc _ (g_1.2 : List (Int × Int))) maps_nil))))), (hg_48 2 (.sl .nl (Enc.shp (List Int)) 0 []) (.sl .nl (Enc.shp (List Int)) 0 []) (show s_47 2 = (.sl .nl (Enc.shp (List Int)) 0 []) from keep_app ha_47 (hg_46 2 (.sl .nl (Enc.shp (List Int)) 0 []) (.sl .nl (Enc.shp (List Int)) 0 []) (keep_clear (s := s) (pk := [74, 75]) h2 rfl rfl) rfl) rfl) rfl), (hg_48 3 (encO (.at 75 []) (.of (ap_912 : List (List Int)))) (encO (.at 3 []) (.of (ap_912 : List (List Int)))) rfl (map_encO (r := 75) (p := []) rfl rfl)), (hg_48 4 (.int .i64 x_306) (.int .i64 x_306) (show s_47 4 = (.int .i64 x_306) from keep_app ha_47 (hg_46 4 (.int .i64 x_306) (.int .i64 x_306) (keep_clear (s := s) (pk := [74, 75]) h4 rfl rfl) rfl) rfl) rfl)⟩ ?_
      rintro s ⟨h1, h2, h3, h4⟩
      refine .nbk ?_
      refine .nsq ?_
      refine run_reg ?_
      refine e_end ?_
      refine g_v1 (t := 4) (u := (.int .i64 x_306)) (.int .i64 x_306) h4 rfl rfl ?_
      refine g_v1 (t := 15) (u := (.int .i64 x_306)) (.int .i64 (w64 (x_306 + 1))) rfl rfl rfl ?_
      refine g_v1 (t := 16) (u := (.int .i64 (w64 (x_306 + 1)))) (.int .i64 (w64 (x_306 + 1))) rfl rfl rfl ?_
      refine g_end ?_
      refine e_end ?_
      refine renew [(1, (.ref (.bx 1) 0 [] (.agg [(.int .i64 g_1.1), (Enc.enc (g_1.2 : List (Int × Int)))]))), (2, (.sl .nl (Enc.shp (List Int)) 0 [])), (3, (encO (.at 3 []) (.of (ap_912 : List (List Int))))), (4, (.int .i64 (w64 (x_306 + 1))))] ⟨h1, h2, h3, rfl⟩ ?_
      rintro s ⟨h1, h2, h3, h4⟩
      refine .nlp ?_
      exact Hc1 ap_912 (w64 (x_306 + 1)) _ ⟨h1, h2, h3, h4⟩ h
def s_l2Dist_l4 (F : Nat) (g_1 : (Int × (List (Int × Int)))) (out_305 : (List (List Int))) (x_306 : Int) (c1 : (List (List Int)) → Int → Option (List (List Int))) : Nat → (List Int) → Int → Option (List (List Int))
  | 0, _, _ => none
  | k + 1, row_611, y_612 =>
    bif decide (y_612 < g_1.1) then
      (appL row_611 [(-1)]).bind fun ap_614 =>
      (s_l2Dist_l4 F g_1 out_305 x_306 c1 k) ap_614 (w64 (y_612 + 1))
    else
      (idx row_611 x_306).bind fun e_615 =>
      s_l2Dist_l3 F g_1 out_305 x_306 c1 F (row_611.set x_306.toNat 0) 0
theorem t_f71_l4 (H : H71 D σ F) (g_1 : (Int × (List (Int × Int)))) (out_305 : (List (List Int))) (x_306 : Int) (c1 : (List (List Int)) → Int → Option (List (List Int))) (Hc1 : ∀ (out_305 : (List (List Int))) (x_306 : Int) (s : Nat → V), Facts [(1, (.ref (.bx 1) 0 [] (.agg [(.int .i64 g_1.1), (Enc.enc (g_1.2 : List (Int × Int)))]))), (2, (.sl .nl (Enc.shp (List Int)) 0 [])), (3, (encO (.at 3 []) (.of (out_305 : List (List Int))))), (4, (.int .i64 x_306))] s → c1 out_305 x_306 = some r → Run D σ (R71 r) (.run A71_1 [.lp A71_1, .bk 0, .sq A71_30]) s) : ∀ (k : Nat) (row_611 : (List Int)) (y_612 : Int) (s : Nat → V), Facts [(1, (.ref (.bx 1) 0 [] (.agg [(.int .i64 g_1.1), (Enc.enc (g_1.2 : List (Int × Int)))]))), (2, (.sl .nl (Enc.shp (List Int)) 0 [])), (3, (encO (.at 3 []) (.of (out_305 : List (List Int))))), (4, (.int .i64 x_306)), (5, (encO (.at 5 []) (.of (row_611 : List Int)))), (6, (.int .i64 y_612))] s → s_l2Dist_l4 F g_1 out_305 x_306 c1 k row_611 y_612 = some r → Run D σ (R71 r) (.run A71_6 [.lp A71_6, .bk 2, .sq A71_10, .bk 1, .sq A71_29, .lp A71_1, .bk 0, .sq A71_30]) s := by
  intro k
  induction k with
  | zero => intro row_611 y_612 s _ h; exact nomatch (h : (none : Option _) = some r)
  | succ k ih =>
    intro row_611 y_612 s hs h
    rw [s_l2Dist_l4] at h
    obtain ⟨h1, h2, h3, h4, h5, h6⟩ := hs
    refine .seq ?_
    refine .seq ?_
    refine run_reg ?_
    refine e_end ?_
    refine g_v1 (t := 6) (u := (.int .i64 y_612)) (.int .i64 y_612) h6 rfl rfl ?_
    refine g_v1 (t := 1) (u := (.ref (.bx 1) 0 [] (.agg [(.int .i64 g_1.1), (Enc.enc (g_1.2 : List (Int × Int)))]))) (.ref (.bx 1) 0 [0] (.int .i64 g_1.1)) h1 rfl rfl ?_
    refine g_v1 (t := 19) (u := (.ref (.bx 1) 0 [0] (.int .i64 g_1.1))) (.int .i64 g_1.1) rfl rfl rfl ?_
    refine g_v2 (t1 := 18) (t2 := 20) (u1 := (.int .i64 y_612)) (u2 := (.int .i64 g_1.1)) (.bool (decide (y_612 < g_1.1))) rfl rfl rfl rfl ?_
    refine g_end ?_
    refine e_end ?_
    refine renew [(1, (.ref (.bx 1) 0 [] (.agg [(.int .i64 g_1.1), (Enc.enc (g_1.2 : List (Int × Int)))]))), (2, (.sl .nl (Enc.shp (List Int)) 0 [])), (3, (encO (.at 3 []) (.of (out_305 : List (List Int))))), (4, (.int .i64 x_306)), (5, (encO (.at 5 []) (.of (row_611 : List Int)))), (6, (.int .i64 y_612)), (21, (.bool (decide (y_612 < g_1.1))))] ⟨h1, h2, h3, h4, h5, h6, rfl⟩ ?_
    rintro s ⟨h1, h2, h3, h4, h5, h6, h21⟩
    refine .nsq ?_
    refine run_cond (t := decide (y_612 < g_1.1)) h21 h (fun h => ?_) (fun h => ?_)
    · refine .skip ?_
      refine .nsq ?_
      refine .seq ?_
      refine .block ?_
      refine run_reg ?_
      refine e_clr ?_
      refine e_end ?_
      refine g_v1 (t := 5) (u := (encO (.at 5 []) (.of (row_611 : List Int)))) (encO (.at 5 []) (.of (row_611 : List Int))) (keep_clear (s := s) (pk := [25, 26]) h5 rfl (map_encO (r := 5) (p := []) rfl rfl)) rfl rfl ?_
      refine g_litL [] [Enc.enc ((-1) : Int)] trivial rfl rfl (gone_clear (s := s) (pk := [25, 26]) (t := 25) rfl) ?_
      obtain ⟨ap_614, E_ap_614, h⟩ := bind_some h
      refine g_app (q := 5) (p := []) (o := (.of (row_611 : List Int))) (ys := ([(-1)] : List Int)) (t2 := (.at 25 [])) (lo2 := 0) rfl rfl rfl (gone_clear (s := s) (pk := [25, 26]) (t := 26) rfl) (appN_L (o := (.of (row_611 : List Int))) E_ap_614 trivial) (fun s_43 ha_43 => ?_)
      refine g_v1 (t := 26) (u := (encO (.at 26 []) (.of (ap_614 : List Int)))) (encO (.at 26 []) (.of (ap_614 : List Int))) rfl rfl rfl ?_
      refine g_end ?_
      refine e_home (r := 26) (x := 5) (v := (encO (.at 26 []) (.of (ap_614 : List Int)))) (by exact rfl) rfl (fun s_44 hg_44 => ?_)
      refine e_end ?_
      refine renew [(1, (.ref (.bx 1) 0 [] (.agg [(.int .i64 g_1.1), (Enc.enc (g_1.2 : List (Int × Int)))]))), (2, (.sl .nl (Enc.shp (List Int)) 0 [])), (3, (encO (.at 3 []) (.of (out_305 : List (List Int))))), (4, (.int .i64 x_306)), (5, (encO (.at 5 []) (.of (ap_614 : List Int)))), (6, (.int .i64 y_612))] ⟨(hg_44 1 (.ref (.bx 1) 0 [] (.agg [(.int .i64 g_1.1), (Enc.enc (g_1.2 : List (Int × Int)))])) (.ref (.bx 1) 0 [] (.agg [(.int .i64 g_1.1), (Enc.enc (g_1.2 : List (Int × Int)))])) (show s_43 1 = (.ref (.bx 1) 0 [] (.agg [(.int .i64 g_1.1), (Enc.enc (g_1.2 : List (Int × Int)))])) from keep_app ha_43 (keep_clear (s := s) (pk := [25, 26]) h1 rfl (map_bx rfl (map_agg (maps_cons rfl (maps_cons (Enc.map_enc _ (g_1.2 : List (Int × Int))) maps_nil))))) (map_bx rfl (map_agg (maps_cons rfl (maps_cons (Enc.map_enc _ (g_1.2 : List (Int × Int))) maps_nil))))) (map_bx rfl (map_agg (maps_cons rfl (maps_cons (Enc.map_enc _ (g_1.2 : List (Int × Int))) maps_nil))))), (hg_44 2 (.sl .nl (Enc.shp (List Int)) 0 []) (.sl .nl (Enc.shp (List Int)) 0 []) (show s_43 2 = (.sl .nl (Enc.shp (List Int)) 0 []) from keep_app ha_43 (keep_clear (s := s) (pk := [25, 26]) h2 rfl rfl) rfl) rfl), (hg_44 3 (encO (.at 3 []) (.of (out_305 : List (List Int)))) (encO (.at 3 []) (.of (out_305 : List (List Int)))) (show s_43 3 = (encO (.at 3 []) (.of (out_305 : List (List Int)))) from keep_app ha_43 (keep_clear (s := s) (pk := [25, 26]) h3 rfl (map_encO (r := 3) (p := []) rfl rfl)) (map_encO (r := 3) (p := []) rfl rfl)) (map_encO (r := 3) (p := []) rfl rfl)), (hg_44 4 (.int .i64 x_306) (.int .i64 x_306) (show s_43 4 = (.int .i64 x_306) from keep_app ha_43 (keep_clear (s := s) (pk := [25, 26]) h4 rfl rfl) rfl) rfl), (hg_44 5 (encO (.at 26 []) (.of (ap_614 : List Int))) (encO (.at 5 []) (.of (ap_614 : List Int))) rfl (map_encO (r := 26) (p := []) rfl rfl)), (hg_44 6 (.int .i64 y_612) (.int .i64 y_612) (show s_43 6 = (.int .i64 y_612) from keep_app ha_43 (keep_clear (s := s) (pk := [25, 26]) h6 rfl rfl) rfl) rfl)⟩ ?_
      rintro s ⟨h1, h2, h3, h4, h5, h6⟩
      refine .nbk ?_
      refine .nsq ?_
      refine run_reg ?_
      refine e_end ?_
      refine g_v1 (t := 6) (u := (.int .i64 y_612)) (.int .i64 y_612) h6 rfl rfl ?_
      refine g_v1 (t := 22) (u := (.int .i64 y_612)) (.int .i64 (w64 (y_612 + 1))) rfl rfl rfl ?_
      refine g_v1 (t := 23) (u := (.int .i64 (w64 (y_612 + 1)))) (.int .i64 (w64 (y_612 + 1))) rfl rfl rfl ?_
      refine g_end ?_
      refine e_end ?_
      refine renew [(1, (.ref (.bx 1) 0 [] (.agg [(.int .i64 g_1.1), (Enc.enc (g_1.2 : List (Int × Int)))]))), (2, (.sl .nl (Enc.shp (List Int)) 0 [])), (3, (encO (.at 3 []) (.of (out_305 : List (List Int))))), (4, (.int .i64 x_306)), (5, (encO (.at 5 []) (.of (ap_614 : List Int)))), (6, (.int .i64 (w64 (y_612 + 1))))] ⟨h1, h2, h3, h4, h5, rfl⟩ ?_
      rintro s ⟨h1, h2, h3, h4, h5, h6⟩
      refine .nlp ?_
      exact ih ap_614 (w64 (y_612 + 1)) _ ⟨h1, h2, h3, h4, h5, h6⟩ h
    · refine .exit ?_
      refine .esq ?_
      refine .elp ?_
      refine .ebk ?_
      refine .nsq ?_
      refine .seq ?_
      refine run_reg ?_
      refine e_end ?_
      refine g_v1 (t := 5) (u := (encO (.at 5 []) (.of (row_611 : List Int)))) (encO (.at 5 []) (.of (row_611 : List Int))) h5 rfl rfl ?_
      refine g_v1 (t := 4) (u := (.int .i64 x_306)) (.int .i64 x_306) h4 rfl rfl ?_
      obtain ⟨e_615, E_e_615, h⟩ := bind_some h
      refine g_v (.ref (.at 5 []) x_306.toNat [] (.int .i64 e_615)) (ev_idxO (o := (.of row_611)) rfl rfl E_e_615 rfl) ?_
      refine g_store (.int .i64 0) (rd_of rfl rfl) (rd_of rfl rfl) (by refine ⟨by decide, by decide, rfl, rfl, rfl, ?_⟩; first | rfl | simp [V.toks, V.tokss, Enc.toks_enc]) ?_
      refine g_end ?_
      refine e_end ?_
      refine renew [(1, (.ref (.bx 1) 0 [] (.agg [(.int .i64 g_1.1), (Enc.enc (g_1.2 : List (Int × Int)))]))), (2, (.sl .nl (Enc.shp (List Int)) 0 [])), (3, (encO (.at 3 []) (.of (out_305 : List (List Int))))), (4, (.int .i64 x_306)), (5, (encO (.at 5 []) (.of (row_611.set x_306.toNat 0 : List Int))))] ⟨(keep_mut h1 (mut_ref_ne rfl rfl (mut_agg (muts_cons rfl (muts_cons (Enc.mut_enc _ _ _ _ (g_1.2 : List (Int × Int))) rfl))))), (keep_mut h2 rfl), (keep_mut h3 (mut_own_ne rfl rfl)), (keep_mut h4 rfl), (keep_mut h5 mut_own)⟩ ?_
      rintro s ⟨h1, h2, h3, h4, h5⟩
      refine .nsq ?_
      refine .seq ?_
      refine .seq ?_
      refine run_reg ?_
      refine e_end ?_
      refine g_v0 (.int .i64 0) rfl rfl ?_
      refine g_end ?_
      refine e_end ?_
      refine renew [(1, (.ref (.bx 1) 0 [] (.agg [(.int .i64 g_1.1), (Enc.enc (g_1.2 : List (Int × Int)))]))), (2, (.sl .nl (Enc.shp (List Int)) 0 [])), (3, (encO (.at 3 []) (.of (out_305 : List (List Int))))), (4, (.int .i64 x_306)), (5, (encO (.at 5 []) (.of (row_611.set x_306.toNat 0 : List Int)))), (7, (.int .i64 0))] ⟨h1, h2, h3, h4, h5, rfl⟩ ?_
      rintro s ⟨h1, h2, h3, h4, h5, h7⟩
      refine .nsq ?_
      refine .block ?_
      refine .loop ?_
      exact t_f71_l3 H g_1 out_305 x_306 c1 Hc1 F (row_611.set x_306.toNat 0) 0 _ ⟨h1, h2, h3, h4, h5, h7⟩ h
def s_l2Dist_l5 (F : Nat) (g_1 : (Int × (List (Int × Int))))  : Nat → (List (List Int)) → Int → Option (List (List Int))
  | 0, _, _ => none
  | k + 1, out_305, x_306 =>
    bif decide (x_306 < g_1.1) then
      s_l2Dist_l4 F g_1 out_305 x_306 (s_l2Dist_l5 F g_1 k) F [] 0
    else
      some out_305
theorem t_f71_l5 (H : H71 D σ F) (g_1 : (Int × (List (Int × Int))))  : ∀ (k : Nat) (out_305 : (List (List Int))) (x_306 : Int) (s : Nat → V), Facts [(1, (.ref (.bx 1) 0 [] (.agg [(.int .i64 g_1.1), (Enc.enc (g_1.2 : List (Int × Int)))]))), (2, (.sl .nl (Enc.shp (List Int)) 0 [])), (3, (encO (.at 3 []) (.of (out_305 : List (List Int))))), (4, (.int .i64 x_306))] s → s_l2Dist_l5 F g_1 k out_305 x_306 = some r → Run D σ (R71 r) (.run A71_1 [.lp A71_1, .bk 0, .sq A71_30]) s := by
  intro k
  induction k with
  | zero => intro out_305 x_306 s _ h; exact nomatch (h : (none : Option _) = some r)
  | succ k ih =>
    intro out_305 x_306 s hs h
    rw [s_l2Dist_l5] at h
    obtain ⟨h1, h2, h3, h4⟩ := hs
    refine .seq ?_
    refine .seq ?_
    refine run_reg ?_
    refine e_end ?_
    refine g_v1 (t := 4) (u := (.int .i64 x_306)) (.int .i64 x_306) h4 rfl rfl ?_
    refine g_v1 (t := 1) (u := (.ref (.bx 1) 0 [] (.agg [(.int .i64 g_1.1), (Enc.enc (g_1.2 : List (Int × Int)))]))) (.ref (.bx 1) 0 [0] (.int .i64 g_1.1)) h1 rfl rfl ?_
    refine g_v1 (t := 12) (u := (.ref (.bx 1) 0 [0] (.int .i64 g_1.1))) (.int .i64 g_1.1) rfl rfl rfl ?_
    refine g_v2 (t1 := 11) (t2 := 13) (u1 := (.int .i64 x_306)) (u2 := (.int .i64 g_1.1)) (.bool (decide (x_306 < g_1.1))) rfl rfl rfl rfl ?_
    refine g_end ?_
    refine e_end ?_
    refine renew [(1, (.ref (.bx 1) 0 [] (.agg [(.int .i64 g_1.1), (Enc.enc (g_1.2 : List (Int × Int)))]))), (2, (.sl .nl (Enc.shp (List Int)) 0 [])), (3, (encO (.at 3 []) (.of (out_305 : List (List Int))))), (4, (.int .i64 x_306)), (14, (.bool (decide (x_306 < g_1.1))))] ⟨h1, h2, h3, h4, rfl⟩ ?_
    rintro s ⟨h1, h2, h3, h4, h14⟩
    refine .nsq ?_
    refine run_cond (t := decide (x_306 < g_1.1)) h14 h (fun h => ?_) (fun h => ?_)
    · refine .skip ?_
      refine .nsq ?_
      refine .seq ?_
      refine .block ?_
      refine .seq ?_
      refine run_reg ?_
      refine e_clr ?_
      refine e_end ?_
      refine g_litL [] [] trivial rfl rfl (gone_clear (s := s) (pk := [17]) (t := 17) rfl) ?_
      refine g_v1 (t := 17) (u := (encO (.at 17 []) (.of ([] : List Int)))) (encO (.at 17 []) (.of ([] : List Int))) rfl rfl rfl ?_
      refine g_end ?_
      refine e_home (r := 17) (x := 5) (v := (encO (.at 17 []) (.of ([] : List Int)))) (by exact rfl) rfl (fun s_35 hg_35 => ?_)
      refine e_end ?_
      refine renew [(1, (.ref (.bx 1) 0 [] (.agg [(.int .i64 g_1.1), (Enc.enc (g_1.2 : List (Int × Int)))]))), (2, (.sl .nl (Enc.shp (List Int)) 0 [])), (3, (encO (.at 3 []) (.of (out_305 : List (List Int))))), (4, (.int .i64 x_306)), (5, (encO (.at 5 []) (.of ([] : List Int))))] ⟨(hg_35 1 (.ref (.bx 1) 0 [] (.agg [(.int .i64 g_1.1), (Enc.enc (g_1.2 : List (Int × Int)))])) (.ref (.bx 1) 0 [] (.agg [(.int .i64 g_1.1), (Enc.enc (g_1.2 : List (Int × Int)))])) (keep_clear (s := s) (pk := [17]) h1 rfl (map_bx rfl (map_agg (maps_cons rfl (maps_cons (Enc.map_enc _ (g_1.2 : List (Int × Int))) maps_nil))))) (map_bx rfl (map_agg (maps_cons rfl (maps_cons (Enc.map_enc _ (g_1.2 : List (Int × Int))) maps_nil))))), (hg_35 2 (.sl .nl (Enc.shp (List Int)) 0 []) (.sl .nl (Enc.shp (List Int)) 0 []) (keep_clear (s := s) (pk := [17]) h2 rfl rfl) rfl), (hg_35 3 (encO (.at 3 []) (.of (out_305 : List (List Int)))) (encO (.at 3 []) (.of (out_305 : List (List Int)))) (keep_clear (s := s) (pk := [17]) h3 rfl (map_encO (r := 3) (p := []) rfl rfl)) (map_encO (r := 3) (p := []) rfl rfl)), (hg_35 4 (.int .i64 x_306) (.int .i64 x_306) (keep_clear (s := s) (pk := [17]) h4 rfl rfl) rfl), (hg_35 5 (encO (.at 17 []) (.of ([] : List Int))) (encO (.at 5 []) (.of ([] : List Int))) rfl (map_encO (r := 17) (p := []) rfl rfl))⟩ ?_
      rintro s ⟨h1, h2, h3, h4, h5⟩
      refine .nsq ?_
      refine .seq ?_
      refine .seq ?_
      refine run_reg ?_
      refine e_end ?_
      refine g_v0 (.int .i64 0) rfl rfl ?_
      refine g_end ?_
      refine e_end ?_
      refine renew [(1, (.ref (.bx 1) 0 [] (.agg [(.int .i64 g_1.1), (Enc.enc (g_1.2 : List (Int × Int)))]))), (2, (.sl .nl (Enc.shp (List Int)) 0 [])), (3, (encO (.at 3 []) (.of (out_305 : List (List Int))))), (4, (.int .i64 x_306)), (5, (encO (.at 5 []) (.of ([] : List Int)))), (6, (.int .i64 0))] ⟨h1, h2, h3, h4, h5, rfl⟩ ?_
      rintro s ⟨h1, h2, h3, h4, h5, h6⟩
      refine .nsq ?_
      refine .block ?_
      refine .loop ?_
      exact t_f71_l4 H g_1 out_305 x_306 (s_l2Dist_l5 F g_1 k) ih F [] 0 _ ⟨h1, h2, h3, h4, h5, h6⟩ h
    · refine .exit ?_
      refine .esq ?_
      refine .elp ?_
      refine .ebk ?_
      refine .nsq ?_
      refine .seq ?_
      refine run_reg ?_
      refine e_end ?_
      refine g_v1 (t := 3) (u := (encO (.at 3 []) (.of (out_305 : List (List Int))))) (encO (.at 3 []) (.of (out_305 : List (List Int)))) h3 rfl rfl ?_
      refine g_v1 (t := 76) (u := (encO (.at 3 []) (.of (out_305 : List (List Int))))) (encO (.at 3 []) (.of (out_305 : List (List Int)))) rfl rfl rfl ?_
      refine g_end ?_
      refine e_home (r := 3) (x := 2) (v := (encO (.at 3 []) (.of (out_305 : List (List Int))))) (by exact rfl) rfl (fun s_49 hg_49 => ?_)
      refine e_end ?_
      refine renew [(2, (encO (.at 2 []) (.of (out_305 : List (List Int)))))] (hg_49 2 (encO (.at 3 []) (.of (out_305 : List (List Int)))) (encO (.at 2 []) (.of (out_305 : List (List Int)))) rfl (map_encO (r := 3) (p := []) rfl rfl)) ?_
      rintro s h2
      refine .nsq ?_
      refine .ret ?_
      have hr := Option.some.inj h
      subst hr
      exact rrA (res_tmp h2) (fin_ret1 (fin_own (o := .of out_305)))
def s_l2Dist (F : Nat) (g_1 : (Int × (List (Int × Int)))) : Option (List (List Int)) :=
  s_l2Dist_l5 F g_1 F [] 0
theorem t71 (H : H71 D σ F) (g_1 : (Int × (List (Int × Int)))) (s : Nat → V) (hs : Facts [(0, (.agg [(.int .i64 g_1.1), (Enc.enc (g_1.2 : List (Int × Int)))]))] s) (h : s_l2Dist F g_1 = some r) : Run D σ (R71 r) (.run A71 []) s := by
  unfold s_l2Dist at h
  have h0 := hs
  refine .seq ?_
  refine run_reg ?_
  refine e_clr ?_
  refine e_end ?_
  refine g_box (.agg [(.int .i64 g_1.1), (Enc.enc (g_1.2 : List (Int × Int)))]) (rd_of (keep_clear (s := s) (pk := [1]) h0 rfl (map_agg (maps_cons rfl (maps_cons (Enc.map_enc _ (g_1.2 : List (Int × Int))) maps_nil)))) rfl) (gone_clear (s := s) (pk := [1]) (t := 1) rfl) rfl ?_
  refine g_v0 (.sl .nl (Enc.shp (List Int)) 0 []) rfl rfl ?_
  refine g_end ?_
  refine e_end ?_
  refine renew [(1, (.ref (.bx 1) 0 [] (.agg [(.int .i64 g_1.1), (Enc.enc (g_1.2 : List (Int × Int)))]))), (2, (.sl .nl (Enc.shp (List Int)) 0 []))] ⟨rfl, rfl⟩ ?_
  rintro s ⟨h1, h2⟩
  refine .nsq ?_
  refine .seq ?_
  refine run_reg ?_
  refine e_clr ?_
  refine e_end ?_
  refine g_litL [] [] trivial rfl rfl (gone_clear (s := s) (pk := [10]) (t := 10) rfl) ?_
  refine g_v1 (t := 10) (u := (encO (.at 10 []) (.of ([] : List (List Int))))) (encO (.at 10 []) (.of ([] : List (List Int)))) rfl rfl rfl ?_
  refine g_end ?_
  refine e_home (r := 10) (x := 3) (v := (encO (.at 10 []) (.of ([] : List (List Int))))) (by exact rfl) rfl (fun s_3 hg_3 => ?_)
  refine e_end ?_
  refine renew [(1, (.ref (.bx 1) 0 [] (.agg [(.int .i64 g_1.1), (Enc.enc (g_1.2 : List (Int × Int)))]))), (2, (.sl .nl (Enc.shp (List Int)) 0 [])), (3, (encO (.at 3 []) (.of ([] : List (List Int)))))] ⟨(hg_3 1 (.ref (.bx 1) 0 [] (.agg [(.int .i64 g_1.1), (Enc.enc (g_1.2 : List (Int × Int)))])) (.ref (.bx 1) 0 [] (.agg [(.int .i64 g_1.1), (Enc.enc (g_1.2 : List (Int × Int)))])) (keep_clear (s := s) (pk := [10]) h1 rfl (map_bx rfl (map_agg (maps_cons rfl (maps_cons (Enc.map_enc _ (g_1.2 : List (Int × Int))) maps_nil))))) (map_bx rfl (map_agg (maps_cons rfl (maps_cons (Enc.map_enc _ (g_1.2 : List (Int × Int))) maps_nil))))), (hg_3 2 (.sl .nl (Enc.shp (List Int)) 0 []) (.sl .nl (Enc.shp (List Int)) 0 []) (keep_clear (s := s) (pk := [10]) h2 rfl rfl) rfl), (hg_3 3 (encO (.at 10 []) (.of ([] : List (List Int)))) (encO (.at 3 []) (.of ([] : List (List Int)))) rfl (map_encO (r := 10) (p := []) rfl rfl))⟩ ?_
  rintro s ⟨h1, h2, h3⟩
  refine .nsq ?_
  refine .seq ?_
  refine .seq ?_
  refine run_reg ?_
  refine e_end ?_
  refine g_v0 (.int .i64 0) rfl rfl ?_
  refine g_end ?_
  refine e_end ?_
  refine renew [(1, (.ref (.bx 1) 0 [] (.agg [(.int .i64 g_1.1), (Enc.enc (g_1.2 : List (Int × Int)))]))), (2, (.sl .nl (Enc.shp (List Int)) 0 [])), (3, (encO (.at 3 []) (.of ([] : List (List Int))))), (4, (.int .i64 0))] ⟨h1, h2, h3, rfl⟩ ?_
  rintro s ⟨h1, h2, h3, h4⟩
  refine .nsq ?_
  refine .block ?_
  refine .loop ?_
  exact t_f71_l5 H g_1 F [] 0 _ ⟨h1, h2, h3, h4⟩ h
end
def e71 (F : Nat) : Ent := ⟨71, dn1 (s_l2Dist F) (fun (r : (List (List Int))) => (Enc.enc (r : (List (List Int))))), 0, true⟩
theorem o71 {D : Den} {σ : Sig} {F : Nat} (hF : Fits2 Try.prog D σ) (H : H71 D σ F) : (e71 F).Ok Try.prog := by
  refine ⟨fun args r h => ?_, ⟨Try.f71, Try.func71, rfl, rfl⟩⟩
  obtain ⟨x0, y, rfl, hy, rfl⟩ := dn1_open h
  exact contract_run hF (by kernel_rfl) Try.func71 rfl c71 (show 1 ≤ Try.f71.ntmps by decide) (t71 H x0 _ rfl hy)
/- loop.example/g01109/spec.l2Within -/
def A46_2 : AC := (AC.cond (O.t 19) AC.skip (AC.exit 0))
def A46_4 : AC := (AC.cond (O.t 27) (AC.reg [.clr [30, 31]] [(I.mk (some 28) none false (X.v (A.mov (O.t 7)))), (I.mk (some 29) none false (X.v (A.mov (O.t 9)))), (I.mk (some 30) none false (X.lit (V.int IntKind.i64 (Int.ofNat 0)) 1 [(0, 0, (O.t 29))])), (I.mk (some 31) none false (X.app Sh.s (O.t 28) (O.t 30))), (I.mk (some 7) none false (X.v (A.mov (O.t 31))))] [.home 31 7]) AC.skip)
def A46_5 : AC := (AC.reg [] [(I.mk (some 20) none false (X.v (A.mov (O.t 9)))), (I.mk (some 21) none false (X.v (A.bin BinOp.add (O.t 20) (O.k (V.int IntKind.i64 (Int.ofNat 1)))))), (I.mk (some 9) none false (X.v (A.mov (O.t 21))))] [])
def A46_3 : AC := (AC.seq (AC.block 1 (AC.seq (AC.reg [] [(I.mk (some 22) none false (X.v (A.mov (O.t 8)))), (I.mk (some 23) none false (X.v (A.mov (O.t 9)))), (I.mk (some 24) none false (X.v (A.idx (O.t 22) (O.t 23) 1))), (I.mk (some 25) none false (X.v (A.load Sh.s (O.t 24)))), (I.mk (some 26) none false (X.v (A.mov (O.t 2)))), (I.mk (some 27) none false (X.call (O.k (V.fn 56 [] [])) [(O.t 25), (O.k (V.int IntKind.i64 (Int.ofNat 0))), (O.t 26)]))] []) A46_4)) A46_5)
def A46_1 : AC := (AC.seq (AC.seq (AC.reg [] [(I.mk (some 16) none false (X.v (A.mov (O.t 9)))), (I.mk (some 17) none false (X.v (A.fld (O.t 3) 0 0))), (I.mk (some 18) none false (X.v (A.load Sh.s (O.t 17)))), (I.mk (some 19) none false (X.v (A.bin BinOp.lss (O.t 16) (O.t 18))))] []) A46_2) A46_3)
def A46_6 : AC := (AC.seq (AC.reg [] [(I.mk (some 32) none false (X.v (A.mov (O.t 7)))), (I.mk (some 6) none false (X.v (A.mov (O.t 32))))] [.home 7 6]) AC.ret)
def A46_9 : AC := (AC.block 0 (AC.loop A46_1))
def A46_8 : AC := (AC.seq (AC.seq (AC.reg [] [(I.mk (some 9) none false (X.v (A.mov (O.k (V.int IntKind.i64 (Int.ofNat 0))))))] []) A46_9) A46_6)
def A46_7 : AC := (AC.seq (AC.reg [.clr [10]] [(I.mk (some 10) none false (X.lit (V.int IntKind.i64 (Int.ofNat 0)) 0 [])), (I.mk (some 11) none false (X.v (A.load (Sh.ag [Sh.s, Sh.p]) (O.t 3)))), (I.mk (some 12) none false (X.call (O.k (V.fn 71 [] [])) [(O.t 11)])), (I.mk (some 13) none false (X.v (A.mov (O.t 1)))), (I.mk (some 14) none false (X.v (A.idx (O.t 12) (O.t 13) 1))), (I.mk (some 15) none false (X.v (A.load Sh.p (O.t 14)))), (I.mk (some 7) none false (X.v (A.mov (O.t 10)))), (I.mk (some 8) none false (X.v (A.mov (O.t 15))))] [.home 10 7]) A46_8)
def A46 : AC := (AC.seq (AC.reg [.clr [3]] [(I.mk (some 3) none false (X.box (O.t 0))), (I.mk (some 6) none false (X.v (A.mov (O.k (V.sl Tok.nl Sh.s 0 [])))))] []) A46_7)
def an46 : List An := [{ id := 0, pre := [.clr [3]], ep := [] }, { id := 1, pre := [.clr [10]], ep := [.home 10 7] }, { id := 6, pre := [.clr [30, 31]], ep := [.home 31 7] }, { id := 7, pre := [], ep := [.home 7 6] }]
theorem c46 : cC Try.prog Try.f46.ntmps an46 (Try.f46.body.getD .skip) = some A46 := by kernel_rfl
structure H46 (D : Den) (σ : Sig) (F : Nat) : Prop where
  c71 : ∀ x0 r, s_l2Dist F x0 = some r → D 71 [Enc.enc x0] = some (Enc.enc (r : (List (List Int))))
  g71 : σ 71 = some (0, true)
  c56 : ∀ x0 x1 x2 r, s_l1In F x0 x1 x2 = some r → D 56 [Enc.enc x0, Enc.enc x1, Enc.enc x2] = some (Enc.enc (r : Bool))
  g56 : σ 56 = some (0, false)
abbrev R46 (r : (List Int)) : (Nat → V) → Prop := RR Try.prog [.tmp 6] 0 true (Enc.enc (r : (List Int)))
section
variable {D : Den} {σ : Sig} {F : Nat} {r : (List Int)}
def s_l2Within_j1 (F : Nat) (r_3 : Int) (g_1 : (Int × (List (Int × Int)))) (e_5 : (List Int)) (y_12 : Int) (c1 : (List Int) → Int → Option (List Int)) (out_21 : (List Int)) : Option (List Int) :=
  c1 out_21 (w64 (y_12 + 1))
theorem t_f46_j1 (H : H46 D σ F) (r_3 : Int) (g_1 : (Int × (List (Int × Int)))) (e_5 : (List Int)) (y_12 : Int) (c1 : (List Int) → Int → Option (List Int)) (Hc1 : ∀ (out_11 : (List Int)) (y_12 : Int) (s : Nat → V), Facts [(2, (.int .i64 r_3)), (3, (.ref (.bx 3) 0 [] (.agg [(.int .i64 g_1.1), (Enc.enc (g_1.2 : List (Int × Int)))]))), (6, (.sl .nl (Enc.shp Int) 0 [])), (7, (encO (.at 7 []) (.of (out_11 : List Int)))), (8, (Enc.enc (e_5 : List Int))), (9, (.int .i64 y_12))] s → c1 out_11 y_12 = some r → Run D σ (R46 r) (.run A46_1 [.lp A46_1, .bk 0, .sq A46_6]) s) (out_21 : (List Int)) (s : Nat → V) (hs : Facts [(2, (.int .i64 r_3)), (3, (.ref (.bx 3) 0 [] (.agg [(.int .i64 g_1.1), (Enc.enc (g_1.2 : List (Int × Int)))]))), (6, (.sl .nl (Enc.shp Int) 0 [])), (7, (encO (.at 7 []) (.of (out_21 : List Int)))), (8, (Enc.enc (e_5 : List Int))), (9, (.int .i64 y_12))] s) (h : s_l2Within_j1 F r_3 g_1 e_5 y_12 c1 out_21 = some r) : Run D σ (R46 r) (.nrm [.bk 1, .sq A46_5, .lp A46_1, .bk 0, .sq A46_6]) s := by
  unfold s_l2Within_j1 at h
  obtain ⟨h2, h3, h6, h7, h8, h9⟩ := hs
  refine .nbk ?_
  refine .nsq ?_
  refine run_reg ?_
  refine e_end ?_
  refine g_v1 (t := 9) (u := (.int .i64 y_12)) (.int .i64 y_12) h9 rfl rfl ?_
  refine g_v1 (t := 20) (u := (.int .i64 y_12)) (.int .i64 (w64 (y_12 + 1))) rfl rfl rfl ?_
  refine g_v1 (t := 21) (u := (.int .i64 (w64 (y_12 + 1)))) (.int .i64 (w64 (y_12 + 1))) rfl rfl rfl ?_
  refine g_end ?_
  refine e_end ?_
  refine renew [(2, (.int .i64 r_3)), (3, (.ref (.bx 3) 0 [] (.agg [(.int .i64 g_1.1), (Enc.enc (g_1.2 : List (Int × Int)))]))), (6, (.sl .nl (Enc.shp Int) 0 [])), (7, (encO (.at 7 []) (.of (out_21 : List Int)))), (8, (Enc.enc (e_5 : List Int))), (9, (.int .i64 (w64 (y_12 + 1))))] ⟨h2, h3, h6, h7, h8, rfl⟩ ?_
  rintro s ⟨h2, h3, h6, h7, h8, h9⟩
  refine .nlp ?_
  exact Hc1 out_21 (w64 (y_12 + 1)) _ ⟨h2, h3, h6, h7, h8, h9⟩ h
def s_l2Within_l1 (F : Nat) (r_3 : Int) (g_1 : (Int × (List (Int × Int)))) (e_5 : (List Int))  : Nat → (List Int) → Int → Option (List Int)
  | 0, _, _ => none
  | k + 1, out_11, y_12 =>
    bif decide (y_12 < g_1.1) then
      (idx e_5 y_12).bind fun e_18 =>
      (s_l1In F e_18 0 r_3).bind fun r_19 =>
      bif r_19 then
        (appL out_11 [y_12]).bind fun ap_22 =>
        s_l2Within_j1 F r_3 g_1 e_5 y_12 (s_l2Within_l1 F r_3 g_1 e_5 k) ap_22
      else
        s_l2Within_j1 F r_3 g_1 e_5 y_12 (s_l2Within_l1 F r_3 g_1 e_5 k) out_11
    else
      some out_11
theorem t_f46_l1 (H : H46 D σ F) (r_3 : Int) (g_1 : (Int × (List (Int × Int)))) (e_5 : (List Int))  : ∀ (k : Nat) (out_11 : (List Int)) (y_12 : Int) (s : Nat → V), Facts [(2, (.int .i64 r_3)), (3, (.ref (.bx 3) 0 [] (.agg [(.int .i64 g_1.1), (Enc.enc (g_1.2 : List (Int × Int)))]))), (6, (.sl .nl (Enc.shp Int) 0 [])), (7, (encO (.at 7 []) (.of (out_11 : List Int)))), (8, (Enc.enc (e_5 : List Int))), (9, (.int .i64 y_12))] s → s_l2Within_l1 F r_3 g_1 e_5 k out_11 y_12 = some r → Run D σ (R46 r) (.run A46_1 [.lp A46_1, .bk 0, .sq A46_6]) s := by
  intro k
  induction k with
  | zero => intro out_11 y_12 s _ h; exact nomatch (h : (none : Option _) = some r)
  | succ k ih =>
    intro out_11 y_12 s hs h
    rw [s_l2Within_l1] at h
    obtain ⟨h2, h3, h6, h7, h8, h9⟩ := hs
    refine .seq ?_
    refine .seq ?_
    refine run_reg ?_
    refine e_end ?_
    refine g_v1 (t := 9) (u := (.int .i64 y_12)) (.int .i64 y_12) h9 rfl rfl ?_
    refine g_v1 (t := 3) (u := (.ref (.bx 3) 0 [] (.agg [(.int .i64 g_1.1), (Enc.enc (g_1.2 : List (Int × Int)))]))) (.ref (.bx 3) 0 [0] (.int .i64 g_1.1)) h3 rfl rfl ?_
    refine g_v1 (t := 17) (u := (.ref (.bx 3) 0 [0] (.int .i64 g_1.1))) (.int .i64 g_1.1) rfl rfl rfl ?_
    refine g_v2 (t1 := 16) (t2 := 18) (u1 := (.int .i64 y_12)) (u2 := (.int .i64 g_1.1)) (.bool (decide (y_12 < g_1.1))) rfl rfl rfl rfl ?_
    refine g_end ?_
    refine e_end ?_
    refine renew [(2, (.int .i64 r_3)), (3, (.ref (.bx 3) 0 [] (.agg [(.int .i64 g_1.1), (Enc.enc (g_1.2 : List (Int × Int)))]))), (6, (.sl .nl (Enc.shp Int) 0 [])), (7, (encO (.at 7 []) (.of (out_11 : List Int)))), (8, (Enc.enc (e_5 : List Int))), (9, (.int .i64 y_12)), (19, (.bool (decide (y_12 < g_1.1))))] ⟨h2, h3, h6, h7, h8, h9, rfl⟩ ?_
    rintro s ⟨h2, h3, h6, h7, h8, h9, h19⟩
    refine .nsq ?_
    refine run_cond (t := decide (y_12 < g_1.1)) h19 h (fun h => ?_) (fun h => ?_)
    · refine .skip ?_
      refine .nsq ?_
      refine .seq ?_
      refine .block ?_
      refine .seq ?_
      refine run_reg ?_
      refine e_end ?_
      refine g_v1 (t := 8) (u := (Enc.enc (e_5 : List Int))) (Enc.enc (e_5 : List Int)) h8 rfl rfl ?_
      refine g_v1 (t := 9) (u := (.int .i64 y_12)) (.int .i64 y_12) h9 rfl rfl ?_
      obtain ⟨e_18, E_e_18, h⟩ := bind_some h
      refine g_v (.ref .sh 0 [] (.int .i64 e_18)) (ev_idx (t := .sh) (lo := 0) (xs := e_5) rfl rfl E_e_18 rfl rfl) ?_
      refine g_v1 (t := 24) (u := (.ref .sh 0 [] (.int .i64 e_18))) (.int .i64 e_18) rfl rfl rfl ?_
      refine g_v1 (t := 2) (u := (.int .i64 r_3)) (.int .i64 r_3) h2 rfl rfl ?_
      obtain ⟨r_19, E_r_19, h⟩ := bind_some h
      refine g_call (m := 0) (al := false) (r := (Enc.enc (r_19 : Bool))) [Enc.enc (e_18 : Int), Enc.enc (0 : Int), Enc.enc (r_3 : Int)] (ta_cons (v := (.int .i64 e_18)) rfl rfl rfl (ta_cons (v := (.int .i64 0)) rfl rfl rfl (ta_cons (v := (.int .i64 r_3)) rfl rfl rfl ta_nil))) (H.c56 _ _ _ _ E_r_19) H.g56 rfl rfl rfl rfl ?_
      refine g_end ?_
      refine e_end ?_
      refine renew [(2, (.int .i64 r_3)), (3, (.ref (.bx 3) 0 [] (.agg [(.int .i64 g_1.1), (Enc.enc (g_1.2 : List (Int × Int)))]))), (6, (.sl .nl (Enc.shp Int) 0 [])), (7, (encO (.at 7 []) (.of (out_11 : List Int)))), (8, (Enc.enc (e_5 : List Int))), (9, (.int .i64 y_12)), (27, (.bool r_19))] ⟨h2, h3, h6, h7, h8, h9, rfl⟩ ?_
      rintro s ⟨h2, h3, h6, h7, h8, h9, h27⟩
      refine .nsq ?_
      refine run_cond (t := r_19) h27 h (fun h => ?_) (fun h => ?_)
      · refine run_reg ?_
        refine e_clr ?_
        refine e_end ?_
        refine g_v1 (t := 7) (u := (encO (.at 7 []) (.of (out_11 : List Int)))) (encO (.at 7 []) (.of (out_11 : List Int))) (keep_clear (s := s) (pk := [30, 31]) h7 rfl (map_encO (r := 7) (p := []) rfl rfl)) rfl rfl ?_
        refine g_v1 (t := 9) (u := (.int .i64 y_12)) (.int .i64 y_12) (keep_clear (s := s) (pk := [30, 31]) h9 rfl rfl) rfl rfl ?_
        refine g_litL [(29, (.int .i64 y_12))] [Enc.enc (y_12 : Int)] rfl rfl rfl (gone_clear (s := s) (pk := [30, 31]) (t := 30) rfl) ?_
        obtain ⟨ap_22, E_ap_22, h⟩ := bind_some h
        refine g_app (q := 7) (p := []) (o := (.of (out_11 : List Int))) (ys := ([y_12] : List Int)) (t2 := (.at 30 [])) (lo2 := 0) rfl rfl rfl (gone_clear (s := s) (pk := [30, 31]) (t := 31) rfl) (appN_L (o := (.of (out_11 : List Int))) E_ap_22 trivial) (fun s_20 ha_20 => ?_)
        refine g_v1 (t := 31) (u := (encO (.at 31 []) (.of (ap_22 : List Int)))) (encO (.at 31 []) (.of (ap_22 : List Int))) rfl rfl rfl ?_
        refine g_end ?_
        refine e_home (r := 31) (x := 7) (v := (encO (.at 31 []) (.of (ap_22 : List Int)))) (by exact rfl) rfl (fun s_21 hg_21 => ?_)
        refine e_end ?_
        refine renew [(2, (.int .i64 r_3)), (3, (.ref (.bx 3) 0 [] (.agg [(.int .i64 g_1.1), (Enc.enc (g_1.2 : List (Int × Int)))]))), (6, (.sl .nl (Enc.shp Int) 0 [])), (7, (encO (.at 7 []) (.of (ap_22 : List Int)))), (8, (Enc.enc (e_5 : List Int))), (9, (.int .i64 y_12))] ⟨(hg_21 2 (.int .i64 r_3) (.int .i64 r_3) (show s_20 2 = (.int .i64 r_3) from keep_app ha_20 (keep_clear (s := s) (pk := [30, 31]) h2 rfl rfl) rfl) rfl), (hg_21 3 (.ref (.bx 3) 0 [] (.agg [(.int .i64 g_1.1), (Enc.enc (g_1.2 : List (Int × Int)))])) (.ref (.bx 3) 0 [] (.agg [(.int .i64 g_1.1), (Enc.enc (g_1.2 : List (Int × Int)))])) (show s_20 3 = (.ref (.bx 3) 0 [] (.agg [(.int .i64 g_1.1), (Enc.enc (g_1.2 : List (Int × Int)))])) from keep_app ha_20 (keep_clear (s := s) (pk := [30, 31]) h3 rfl (map_bx rfl (map_agg (maps_cons rfl (maps_cons (Enc.map_enc _ (g_1.2 : List (Int × Int))) maps_nil))))) (map_bx rfl (map_agg (maps_cons rfl (maps_cons (Enc.map_enc _ (g_1.2 : List (Int × Int))) maps_nil))))) (map_bx rfl (map_agg (maps_cons rfl (maps_cons (Enc.map_enc _ (g_1.2 : List (Int × Int))) maps_nil))))), (hg_21 6 (.sl .nl (Enc.shp Int) 0 []) (.sl .nl (Enc.shp Int) 0 []) (show s_20 6 = (.sl .nl (Enc.shp Int) 0 []) from keep_app ha_20 (keep_clear (s := s) (pk := [30, 31]) h6 rfl rfl) rfl) rfl), (hg_21 7 (encO (.at 31 []) (.of (ap_22 : List Int))) (encO (.at 7 []) (.of (ap_22 : List Int))) rfl (map_encO (r := 31) (p := []) rfl rfl)), (hg_21 8 (Enc.enc (e_5 : List Int)) (Enc.enc (e_5 : List Int)) (show s_20 8 = (Enc.enc (e_5 : List Int)) from keep_app ha_20 (keep_clear (s := s) (pk := [30, 31]) h8 rfl (Enc.map_enc _ (e_5 : List Int))) (Enc.map_enc _ (e_5 : List Int))) (Enc.map_enc _ (e_5 : List Int))), (hg_21 9 (.int .i64 y_12) (.int .i64 y_12) (show s_20 9 = (.int .i64 y_12) from keep_app ha_20 (keep_clear (s := s) (pk := [30, 31]) h9 rfl rfl) rfl) rfl)⟩ ?_
        rintro s ⟨h2, h3, h6, h7, h8, h9⟩
        exact t_f46_j1 H r_3 g_1 e_5 y_12 (s_l2Within_l1 F r_3 g_1 e_5 k) ih ap_22 _ ⟨h2, h3, h6, h7, h8, h9⟩ h
      · refine .skip ?_
        exact t_f46_j1 H r_3 g_1 e_5 y_12 (s_l2Within_l1 F r_3 g_1 e_5 k) ih out_11 _ ⟨h2, h3, h6, h7, h8, h9⟩ h
    · refine .exit ?_
      refine .esq ?_
      refine .elp ?_
      refine .ebk ?_
      refine .nsq ?_
      refine .seq ?_
      refine run_reg ?_
      refine e_end ?_
      refine g_v1 (t := 7) (u := (encO (.at 7 []) (.of (out_11 : List Int)))) (encO (.at 7 []) (.of (out_11 : List Int))) h7 rfl rfl ?_
      refine g_v1 (t := 32) (u := (encO (.at 7 []) (.of (out_11 : List Int)))) (encO (.at 7 []) (.of (out_11 : List Int))) rfl rfl rfl ?_
      refine g_end ?_
      refine e_home (r := 7) (x := 6) (v := (encO (.at 7 []) (.of (out_11 : List Int)))) (by exact rfl) rfl (fun s_22 hg_22 => ?_)
      refine e_end ?_
      refine renew [(6, (encO (.at 6 []) (.of (out_11 : List Int))))] (hg_22 6 (encO (.at 7 []) (.of (out_11 : List Int))) (encO (.at 6 []) (.of (out_11 : List Int))) rfl (map_encO (r := 7) (p := []) rfl rfl)) ?_
      rintro s h6
      refine .nsq ?_
      refine .ret ?_
      have hr := Option.some.inj h
      subst hr
      exact rrA (res_tmp h6) (fin_ret1 (fin_own (o := .of out_11)))
def s_l2Within (F : Nat) (g_1 : (Int × (List (Int × Int)))) (x_2 : Int) (r_3 : Int) : Option (List Int) :=
  (s_l2Dist F g_1).bind fun r_4 =>
  (idx r_4 x_2).bind fun e_5 =>
  s_l2Within_l1 F r_3 g_1 e_5 F [] 0
theorem t46 (H : H46 D σ F) (g_1 : (Int × (List (Int × Int)))) (x_2 : Int) (r_3 : Int) (s : Nat → V) (hs : Facts [(0, (.agg [(.int .i64 g_1.1), (Enc.enc (g_1.2 : List (Int × Int)))])), (1, (.int .i64 x_2)), (2, (.int .i64 r_3))] s) (h : s_l2Within F g_1 x_2 r_3 = some r) : Run D σ (R46 r) (.run A46 []) s := by
  unfold s_l2Within at h
  obtain ⟨h0, h1, h2⟩ := hs
  refine .seq ?_
  refine run_reg ?_
  refine e_clr ?_
  refine e_end ?_
  refine g_box (.agg [(.int .i64 g_1.1), (Enc.enc (g_1.2 : List (Int × Int)))]) (rd_of (keep_clear (s := s) (pk := [3]) h0 rfl (map_agg (maps_cons rfl (maps_cons (Enc.map_enc _ (g_1.2 : List (Int × Int))) maps_nil)))) rfl) (gone_clear (s := s) (pk := [3]) (t := 3) rfl) rfl ?_
  refine g_v0 (.sl .nl (Enc.shp Int) 0 []) rfl rfl ?_
  refine g_end ?_
  refine e_end ?_
  refine renew [(1, (.int .i64 x_2)), (2, (.int .i64 r_3)), (3, (.ref (.bx 3) 0 [] (.agg [(.int .i64 g_1.1), (Enc.enc (g_1.2 : List (Int × Int)))]))), (6, (.sl .nl (Enc.shp Int) 0 []))] ⟨(keep_clear (s := s) (pk := [3]) h1 rfl rfl), (keep_clear (s := s) (pk := [3]) h2 rfl rfl), rfl, rfl⟩ ?_
  rintro s ⟨h1, h2, h3, h6⟩
  refine .nsq ?_
  refine .seq ?_
  refine run_reg ?_
  refine e_clr ?_
  refine e_end ?_
  refine g_litL [] [] trivial rfl rfl (gone_clear (s := s) (pk := [10]) (t := 10) rfl) ?_
  refine g_v1 (t := 3) (u := (.ref (.bx 3) 0 [] (.agg [(.int .i64 g_1.1), (Enc.enc (g_1.2 : List (Int × Int)))]))) (.agg [(.int .i64 g_1.1), (Enc.enc (g_1.2 : List (Int × Int)))]) (keep_clear (s := s) (pk := [10]) h3 rfl (map_bx rfl (map_agg (maps_cons rfl (maps_cons (Enc.map_enc _ (g_1.2 : List (Int × Int))) maps_nil))))) rfl rfl ?_
  obtain ⟨r_4, E_r_4, h⟩ := bind_some h
  refine g_call (m := 0) (al := true) (r := (Enc.enc (r_4 : (List (List Int))))) [Enc.enc (g_1 : (Int × (List (Int × Int))))] (ta_cons (v := (.agg [(.int .i64 g_1.1), (Enc.enc (g_1.2 : List (Int × Int)))])) rfl rfl (Enc.erase_enc (g_1 : (Int × (List (Int × Int))))) ta_nil) (H.c71 _ _ E_r_4) H.g71 (hal_of (ht_cons (v := (.agg [(.int .i64 g_1.1), (Enc.enc (g_1.2 : List (Int × Int)))])) rfl rfl rfl ht_nil)) rfl rfl rfl ?_
  refine g_v1 (t := 1) (u := (.int .i64 x_2)) (.int .i64 x_2) (keep_clear (s := s) (pk := [10]) h1 rfl rfl) rfl rfl ?_
  obtain ⟨e_5, E_e_5, h⟩ := bind_some h
  refine g_v (.ref .sh 0 [] (Enc.enc (e_5 : List Int))) (ev_idx (t := .sh) (lo := 0) (xs := r_4) rfl rfl E_e_5 rfl rfl) ?_
  refine g_v1 (t := 14) (u := (.ref .sh 0 [] (Enc.enc (e_5 : List Int)))) (Enc.enc (e_5 : List Int)) rfl rfl rfl ?_
  refine g_v1 (t := 10) (u := (encO (.at 10 []) (.of ([] : List Int)))) (encO (.at 10 []) (.of ([] : List Int))) rfl rfl rfl ?_
  refine g_v1 (t := 15) (u := (Enc.enc (e_5 : List Int))) (Enc.enc (e_5 : List Int)) rfl rfl rfl ?_
  refine g_end ?_
  refine e_home (r := 10) (x := 7) (v := (encO (.at 10 []) (.of ([] : List Int)))) (by exact rfl) rfl (fun s_3 hg_3 => ?_)
  refine e_end ?_
  refine renew [(2, (.int .i64 r_3)), (3, (.ref (.bx 3) 0 [] (.agg [(.int .i64 g_1.1), (Enc.enc (g_1.2 : List (Int × Int)))]))), (6, (.sl .nl (Enc.shp Int) 0 [])), (7, (encO (.at 7 []) (.of ([] : List Int)))), (8, (Enc.enc (e_5 : List Int)))] ⟨(hg_3 2 (.int .i64 r_3) (.int .i64 r_3) (keep_clear (s := s) (pk := [10]) h2 rfl rfl) rfl), (hg_3 3 (.ref (.bx 3) 0 [] (.agg [(.int .i64 g_1.1), (Enc.enc (g_1.2 : List (Int × Int)))])) (.ref (.bx 3) 0 [] (.agg [(.int .i64 g_1.1), (Enc.enc (g_1.2 : List (Int × Int)))])) (keep_clear (s := s) (pk := [10]) h3 rfl (map_bx rfl (map_agg (maps_cons rfl (maps_cons (Enc.map_enc _ (g_1.2 : List (Int × Int))) maps_nil))))) (map_bx rfl (map_agg (maps_cons rfl (maps_cons (Enc.map_enc _ (g_1.2 : List (Int × Int))) maps_nil))))), (hg_3 6 (.sl .nl (Enc.shp Int) 0 []) (.sl .nl (Enc.shp Int) 0 []) (keep_clear (s := s) (pk := [10]) h6 rfl rfl) rfl), (hg_3 7 (encO (.at 10 []) (.of ([] : List Int))) (encO (.at 7 []) (.of ([] : List Int))) rfl (map_encO (r := 10) (p := []) rfl rfl)), (hg_3 8 (Enc.enc (e_5 : List Int)) (Enc.enc (e_5 : List Int)) rfl (Enc.map_enc _ (e_5 : List Int)))⟩ ?_
  rintro s ⟨h2, h3, h6, h7, h8⟩
  refine .nsq ?_
  refine .seq ?_
  refine .seq ?_
  refine run_reg ?_
  refine e_end ?_
  refine g_v0 (.int .i64 0) rfl rfl ?_
  refine g_end ?_
  refine e_end ?_
  refine renew [(2, (.int .i64 r_3)), (3, (.ref (.bx 3) 0 [] (.agg [(.int .i64 g_1.1), (Enc.enc (g_1.2 : List (Int × Int)))]))), (6, (.sl .nl (Enc.shp Int) 0 [])), (7, (encO (.at 7 []) (.of ([] : List Int)))), (8, (Enc.enc (e_5 : List Int))), (9, (.int .i64 0))] ⟨h2, h3, h6, h7, h8, rfl⟩ ?_
  rintro s ⟨h2, h3, h6, h7, h8, h9⟩
  refine .nsq ?_
  refine .block ?_
  refine .loop ?_
  exact t_f46_l1 H r_3 g_1 e_5 F [] 0 _ ⟨h2, h3, h6, h7, h8, h9⟩ h
end
def e46 (F : Nat) : Ent := ⟨46, dn3 (s_l2Within F) (fun (r : (List Int)) => (Enc.enc (r : (List Int)))), 0, true⟩
theorem o46 {D : Den} {σ : Sig} {F : Nat} (hF : Fits2 Try.prog D σ) (H : H46 D σ F) : (e46 F).Ok Try.prog := by
  refine ⟨fun args r h => ?_, ⟨Try.f46, Try.func46, rfl, rfl⟩⟩
  obtain ⟨x0, x1, x2, y, rfl, hy, rfl⟩ := dn3_open h
  exact contract_run hF (by kernel_rfl) Try.func46 rfl c46 (show 3 ≤ Try.f46.ntmps by decide) (t46 H x0 x1 x2 _ ⟨rfl, rfl, rfl⟩ hy)
/- loop.example/g01109/spec.l1Most -/
def A45_2 : AC := (AC.cond (O.t 7) (AC.seq (AC.reg [] [(I.mk (some 8) none false (X.v (A.mov (O.t 0)))), (I.mk (some 4) none false (X.v (A.mov (O.t 8))))] []) AC.ret) AC.skip)
def A45_3 : AC := (AC.seq (AC.reg [] [(I.mk (some 9) none false (X.v (A.mov (O.t 1)))), (I.mk (some 4) none false (X.v (A.mov (O.t 9))))] []) AC.ret)
def A45_1 : AC := (AC.seq (AC.seq (AC.reg [] [(I.mk (some 5) none false (X.v (A.mov (O.t 0)))), (I.mk (some 6) none false (X.v (A.mov (O.t 1)))), (I.mk (some 7) none false (X.v (A.bin BinOp.gtr (O.t 5) (O.t 6))))] []) A45_2) A45_3)
def A45 : AC := (AC.seq (AC.reg [] [(I.mk (some 4) none false (X.v (A.mov (O.k (V.int IntKind.i64 (Int.ofNat 0))))))] []) A45_1)
def an45 : List An := []
theorem c45 : cC Try.prog Try.f45.ntmps an45 (Try.f45.body.getD .skip) = some A45 := by kernel_rfl
structure H45 (D : Den) (σ : Sig) (F : Nat) : Prop where
  mk ::
abbrev R45 (r : Int) : (Nat → V) → Prop := RR Try.prog [.tmp 4] 0 false (Enc.enc (r : Int))
section
variable {D : Den} {σ : Sig} {F : Nat} {r : Int}
def s_l1Most (F : Nat) (a_1 : Int) (b_2 : Int) : Option Int :=
  bif decide (a_1 > b_2) then
    some a_1
  else
    some b_2
theorem t45 (H : H45 D σ F) (a_1 : Int) (b_2 : Int) (s : Nat → V) (hs : Facts [(0, (.int .i64 a_1)), (1, (.int .i64 b_2))] s) (h : s_l1Most F a_1 b_2 = some r) : Run D σ (R45 r) (.run A45 []) s := by
  unfold s_l1Most at h
  obtain ⟨h0, h1⟩ := hs
  refine .seq ?_
  refine run_reg ?_
  refine e_end ?_
  refine g_v0 (.int .i64 0) rfl rfl ?_
  refine g_end ?_
  refine e_end ?_
  refine renew [(0, (.int .i64 a_1)), (1, (.int .i64 b_2)), (4, (.int .i64 0))] ⟨h0, h1, rfl⟩ ?_
  rintro s ⟨h0, h1, h4⟩
  refine .nsq ?_
  refine .seq ?_
  refine .seq ?_
  refine run_reg ?_
  refine e_end ?_
  refine g_v1 (t := 0) (u := (.int .i64 a_1)) (.int .i64 a_1) h0 rfl rfl ?_
  refine g_v1 (t := 1) (u := (.int .i64 b_2)) (.int .i64 b_2) h1 rfl rfl ?_
  refine g_v2 (t1 := 5) (t2 := 6) (u1 := (.int .i64 a_1)) (u2 := (.int .i64 b_2)) (.bool (decide (a_1 > b_2))) rfl rfl rfl rfl ?_
  refine g_end ?_
  refine e_end ?_
  refine renew [(0, (.int .i64 a_1)), (1, (.int .i64 b_2)), (4, (.int .i64 0)), (7, (.bool (decide (a_1 > b_2))))] ⟨h0, h1, h4, rfl⟩ ?_
  rintro s ⟨h0, h1, h4, h7⟩
  refine .nsq ?_
  refine run_cond (t := decide (a_1 > b_2)) h7 h (fun h => ?_) (fun h => ?_)
  · refine .seq ?_
    refine run_reg ?_
    refine e_end ?_
    refine g_v1 (t := 0) (u := (.int .i64 a_1)) (.int .i64 a_1) h0 rfl rfl ?_
    refine g_v1 (t := 8) (u := (.int .i64 a_1)) (.int .i64 a_1) rfl rfl rfl ?_
    refine g_end ?_
    refine e_end ?_
    refine renew [(1, (.int .i64 b_2)), (4, (.int .i64 a_1))] ⟨h1, rfl⟩ ?_
    rintro s ⟨h1, h4⟩
    refine .nsq ?_
    refine .ret ?_
    have hr := Option.some.inj h
    subst hr
    exact rrA (res_tmp h4) rfl
  · refine .skip ?_
    refine .nsq ?_
    refine .seq ?_
    refine run_reg ?_
    refine e_end ?_
    refine g_v1 (t := 1) (u := (.int .i64 b_2)) (.int .i64 b_2) h1 rfl rfl ?_
    refine g_v1 (t := 9) (u := (.int .i64 b_2)) (.int .i64 b_2) rfl rfl rfl ?_
    refine g_end ?_
    refine e_end ?_
    refine renew [(4, (.int .i64 b_2))] rfl ?_
    rintro s h4
    refine .nsq ?_
    refine .ret ?_
    have hr := Option.some.inj h
    subst hr
    exact rrA (res_tmp h4) rfl
end
def e45 (F : Nat) : Ent := ⟨45, dn2 (s_l1Most F) (fun (r : Int) => (Enc.enc (r : Int))), 0, false⟩
theorem o45 {D : Den} {σ : Sig} {F : Nat} (hF : Fits2 Try.prog D σ) (H : H45 D σ F) : (e45 F).Ok Try.prog := by
  refine ⟨fun args r h => ?_, ⟨Try.f45, Try.func45, rfl, rfl⟩⟩
  obtain ⟨x0, x1, y, rfl, hy, rfl⟩ := dn2_open h
  exact contract_run hF (by kernel_rfl) Try.func45 rfl c45 (show 2 ≤ Try.f45.ntmps by decide) (t45 H x0 x1 _ ⟨rfl, rfl⟩ hy)
/- loop.example/g01109/spec.BandwidthBound -/
def A25_2 : AC := (AC.cond (O.t 13) AC.skip (AC.exit 0))
def A25_6 : AC := (AC.cond (O.t 19) AC.skip (AC.exit 2))
def A25_8 : AC := (AC.reg [] [(I.mk (some 20) none false (X.v (A.mov (O.t 6)))), (I.mk (some 21) none false (X.v (A.bin BinOp.add (O.t 20) (O.k (V.int IntKind.i64 (Int.ofNat 1)))))), (I.mk (some 6) none false (X.v (A.mov (O.t 21))))] [])
def A25_7 : AC := (AC.seq (AC.block 3 (AC.reg [] [(I.mk (some 22) none false (X.v (A.mov (O.t 4)))), (I.mk (some 23) none false (X.v (A.load (Sh.ag [Sh.s, Sh.p]) (O.t 1)))), (I.mk (some 24) none false (X.v (A.mov (O.t 5)))), (I.mk (some 25) none false (X.v (A.mov (O.t 6)))), (I.mk (some 26) none false (X.call (O.k (V.fn 46 [] [])) [(O.t 23), (O.t 24), (O.t 25)])), (I.mk (some 27) none false (X.v (A.len (O.t 26)))), (I.mk (some 28) none false (X.v (A.bin BinOp.sub (O.t 27) (O.k (V.int IntKind.i64 (Int.ofNat 1)))))), (I.mk (some 29) none false (X.v (A.mov (O.t 6)))), (I.mk (some 30) none false (X.v (A.bin BinOp.mul (O.k (V.int IntKind.i64 (Int.ofNat 2))) (O.t 29)))), (I.mk (some 31) none false (X.v (A.bin BinOp.add (O.t 28) (O.t 30)))), (I.mk (some 32) none false (X.v (A.bin BinOp.sub (O.t 31) (O.k (V.int IntKind.i64 (Int.ofNat 1)))))), (I.mk (some 33) none false (X.v (A.mov (O.t 6)))), (I.mk (some 34) none false (X.v (A.bin BinOp.mul (O.k (V.int IntKind.i64 (Int.ofNat 2))) (O.t 33)))), (I.mk (some 35) none false (X.v (A.bin BinOp.quo (O.t 32) (O.t 34)))), (I.mk (some 36) none false (X.call (O.k (V.fn 45 [] [])) [(O.t 22), (O.t 35)])), (I.mk (some 4) none false (X.v (A.mov (O.t 36))))] [])) A25_8)
def A25_5 : AC := (AC.seq (AC.seq (AC.reg [] [(I.mk (some 16) none false (X.v (A.mov (O.t 6)))), (I.mk (some 17) none false (X.v (A.fld (O.t 1) 0 0))), (I.mk (some 18) none false (X.v (A.load Sh.s (O.t 17)))), (I.mk (some 19) none false (X.v (A.bin BinOp.leq (O.t 16) (O.t 18))))] []) A25_6) A25_7)
def A25_4 : AC := (AC.block 2 (AC.loop A25_5))
def A25_9 : AC := (AC.reg [] [(I.mk (some 14) none false (X.v (A.mov (O.t 5)))), (I.mk (some 15) none false (X.v (A.bin BinOp.add (O.t 14) (O.k (V.int IntKind.i64 (Int.ofNat 1)))))), (I.mk (some 5) none false (X.v (A.mov (O.t 15))))] [])
def A25_3 : AC := (AC.seq (AC.block 1 (AC.seq (AC.reg [] [(I.mk (some 6) none false (X.v (A.mov (O.k (V.int IntKind.i64 (Int.ofNat 1))))))] []) A25_4)) A25_9)
def A25_1 : AC := (AC.seq (AC.seq (AC.reg [] [(I.mk (some 10) none false (X.v (A.mov (O.t 5)))), (I.mk (some 11) none false (X.v (A.fld (O.t 1) 0 0))), (I.mk (some 12) none false (X.v (A.load Sh.s (O.t 11)))), (I.mk (some 13) none false (X.v (A.bin BinOp.lss (O.t 10) (O.t 12))))] []) A25_2) A25_3)
def A25_10 : AC := (AC.seq (AC.reg [] [(I.mk (some 37) none false (X.v (A.mov (O.t 4)))), (I.mk (some 2) none false (X.v (A.mov (O.t 37)))), (I.mk (some 3) none false (X.v (A.mov (O.k (V.bool true)))))] []) AC.ret)
def A25_12 : AC := (AC.cond (O.t 9) (AC.seq (AC.reg [] [(I.mk (some 2) none false (X.v (A.mov (O.k (V.int IntKind.i64 (Int.ofNat 0)))))), (I.mk (some 3) none false (X.v (A.mov (O.k (V.bool false)))))] []) AC.ret) AC.skip)
def A25_15 : AC := (AC.block 0 (AC.loop A25_1))
def A25_14 : AC := (AC.seq (AC.seq (AC.reg [] [(I.mk (some 5) none false (X.v (A.mov (O.k (V.int IntKind.i64 (Int.ofNat 0))))))] []) A25_15) A25_10)
def A25_13 : AC := (AC.seq (AC.reg [] [(I.mk (some 4) none false (X.v (A.mov (O.k (V.int IntKind.i64 (Int.ofNat 0))))))] []) A25_14)
def A25_11 : AC := (AC.seq (AC.seq (AC.reg [] [(I.mk (some 7) none false (X.v (A.load (Sh.ag [Sh.s, Sh.p]) (O.t 1)))), (I.mk (some 8) none false (X.call (O.k (V.fn 30 [] [])) [(O.t 7)])), (I.mk (some 9) none false (X.v (A.un UnOp.not (O.t 8))))] []) A25_12) A25_13)
def A25 : AC := (AC.seq (AC.reg [.clr [1]] [(I.mk (some 1) none false (X.box (O.t 0))), (I.mk (some 2) none false (X.v (A.mov (O.k (V.int IntKind.i64 (Int.ofNat 0)))))), (I.mk (some 3) none false (X.v (A.mov (O.k (V.bool false)))))] []) A25_11)
def an25 : List An := [{ id := 0, pre := [.clr [1]], ep := [] }]
theorem c25 : cC Try.prog Try.f25.ntmps an25 (Try.f25.body.getD .skip) = some A25 := by kernel_rfl
structure H25 (D : Den) (σ : Sig) (F : Nat) : Prop where
  c30 : ∀ x0 r, s_l2Good F x0 = some r → D 30 [Enc.enc x0] = some (Enc.enc (r : Bool))
  g30 : σ 30 = some (0, false)
  c46 : ∀ x0 x1 x2 r, s_l2Within F x0 x1 x2 = some r → D 46 [Enc.enc x0, Enc.enc x1, Enc.enc x2] = some (Enc.enc (r : (List Int)))
  g46 : σ 46 = some (0, true)
  c45 : ∀ x0 x1 r, s_l1Most F x0 x1 = some r → D 45 [Enc.enc x0, Enc.enc x1] = some (Enc.enc (r : Int))
  g45 : σ 45 = some (0, false)
abbrev R25 (r : (Int × Bool)) : (Nat → V) → Prop := RR Try.prog [.tmp 2, .tmp 3] 0 false (.tup [Enc.enc (r.1 : Int), Enc.enc (r.2 : Bool)])
section
variable {D : Den} {σ : Sig} {F : Nat} {r : (Int × Bool)}
def s_BandwidthBound_l1 (F : Nat) (g_1 : (Int × (List (Int × Int)))) (x_15 : Int) (c1 : Int → Int → Option (Int × Bool)) : Nat → Int → Int → Option (Int × Bool)
  | 0, _, _ => none
  | k + 1, most_30, r_31 =>
    bif decide (r_31 ≤ g_1.1) then
      (s_l2Within F g_1 x_15 r_31).bind fun r_35 =>
      (quoI .i64 (w64 ((w64 ((w64 ((r_35.length : Int) - 1)) + (w64 (2 * r_31)))) - 1)) (w64 (2 * r_31))).bind fun q_36 =>
      (s_l1Most F most_30 q_36).bind fun r_37 =>
      (s_BandwidthBound_l1 F g_1 x_15 c1 k) r_37 (w64 (r_31 + 1))
    else
      c1 most_30 (w64 (x_15 + 1))
theorem t_f25_l1 (H : H25 D σ F) (g_1 : (Int × (List (Int × Int)))) (x_15 : Int) (c1 : Int → Int → Option (Int × Bool)) (Hc1 : ∀ (most_14 : Int) (x_15 : Int) (s : Nat → V), Facts [(1, (.ref (.bx 1) 0 [] (.agg [(.int .i64 g_1.1), (Enc.enc (g_1.2 : List (Int × Int)))]))), (2, (.int .i64 0)), (3, (.bool false)), (4, (.int .i64 most_14)), (5, (.int .i64 x_15))] s → c1 most_14 x_15 = some r → Run D σ (R25 r) (.run A25_1 [.lp A25_1, .bk 0, .sq A25_10]) s) : ∀ (k : Nat) (most_30 : Int) (r_31 : Int) (s : Nat → V), Facts [(1, (.ref (.bx 1) 0 [] (.agg [(.int .i64 g_1.1), (Enc.enc (g_1.2 : List (Int × Int)))]))), (2, (.int .i64 0)), (3, (.bool false)), (4, (.int .i64 most_30)), (5, (.int .i64 x_15)), (6, (.int .i64 r_31))] s → s_BandwidthBound_l1 F g_1 x_15 c1 k most_30 r_31 = some r → Run D σ (R25 r) (.run A25_5 [.lp A25_5, .bk 2, .bk 1, .sq A25_9, .lp A25_1, .bk 0, .sq A25_10]) s := by
  intro k
  induction k with
  | zero => intro most_30 r_31 s _ h; exact nomatch (h : (none : Option _) = some r)
  | succ k ih =>
    intro most_30 r_31 s hs h
    rw [s_BandwidthBound_l1] at h
    obtain ⟨h1, h2, h3, h4, h5, h6⟩ := hs
    refine .seq ?_
    refine .seq ?_
    refine run_reg ?_
    refine e_end ?_
    refine g_v1 (t := 6) (u := (.int .i64 r_31)) (.int .i64 r_31) h6 rfl rfl ?_
    refine g_v1 (t := 1) (u := (.ref (.bx 1) 0 [] (.agg [(.int .i64 g_1.1), (Enc.enc (g_1.2 : List (Int × Int)))]))) (.ref (.bx 1) 0 [0] (.int .i64 g_1.1)) h1 rfl rfl ?_
    refine g_v1 (t := 17) (u := (.ref (.bx 1) 0 [0] (.int .i64 g_1.1))) (.int .i64 g_1.1) rfl rfl rfl ?_
    refine g_v2 (t1 := 16) (t2 := 18) (u1 := (.int .i64 r_31)) (u2 := (.int .i64 g_1.1)) (.bool (decide (r_31 ≤ g_1.1))) rfl rfl rfl rfl ?_
    refine g_end ?_
    refine e_end ?_
    refine renew [(1, (.ref (.bx 1) 0 [] (.agg [(.int .i64 g_1.1), (Enc.enc (g_1.2 : List (Int × Int)))]))), (2, (.int .i64 0)), (3, (.bool false)), (4, (.int .i64 most_30)), (5, (.int .i64 x_15)), (6, (.int .i64 r_31)), (19, (.bool (decide (r_31 ≤ g_1.1))))] ⟨h1, h2, h3, h4, h5, h6, rfl⟩ ?_
    rintro s ⟨h1, h2, h3, h4, h5, h6, h19⟩
    refine .nsq ?_
    refine run_cond (t := decide (r_31 ≤ g_1.1)) h19 h (fun h => ?_) (fun h => ?_)
    · refine .skip ?_
      refine .nsq ?_
      refine .seq ?_
      refine .block ?_
      refine run_reg ?_
      refine e_end ?_
      refine g_v1 (t := 4) (u := (.int .i64 most_30)) (.int .i64 most_30) h4 rfl rfl ?_
      refine g_v1 (t := 1) (u := (.ref (.bx 1) 0 [] (.agg [(.int .i64 g_1.1), (Enc.enc (g_1.2 : List (Int × Int)))]))) (.agg [(.int .i64 g_1.1), (Enc.enc (g_1.2 : List (Int × Int)))]) h1 rfl rfl ?_
      refine g_v1 (t := 5) (u := (.int .i64 x_15)) (.int .i64 x_15) h5 rfl rfl ?_
      refine g_v1 (t := 6) (u := (.int .i64 r_31)) (.int .i64 r_31) h6 rfl rfl ?_
      obtain ⟨r_35, E_r_35, h⟩ := bind_some h
      refine g_call (m := 0) (al := true) (r := (Enc.enc (r_35 : (List Int)))) [Enc.enc (g_1 : (Int × (List (Int × Int)))), Enc.enc (x_15 : Int), Enc.enc (r_31 : Int)] (ta_cons (v := (.agg [(.int .i64 g_1.1), (Enc.enc (g_1.2 : List (Int × Int)))])) rfl rfl (Enc.erase_enc (g_1 : (Int × (List (Int × Int))))) (ta_cons (v := (.int .i64 x_15)) rfl rfl rfl (ta_cons (v := (.int .i64 r_31)) rfl rfl rfl ta_nil))) (H.c46 _ _ _ _ E_r_35) H.g46 (hal_of (ht_cons (v := (.agg [(.int .i64 g_1.1), (Enc.enc (g_1.2 : List (Int × Int)))])) rfl rfl rfl (ht_cons (v := (.int .i64 x_15)) rfl rfl rfl (ht_cons (v := (.int .i64 r_31)) rfl rfl rfl ht_nil)))) rfl rfl rfl ?_
      refine g_v (.int .i64 (r_35.length : Int)) (ev_len (xs := r_35) rfl) ?_
      refine g_v1 (t := 27) (u := (.int .i64 (r_35.length : Int))) (.int .i64 (w64 ((r_35.length : Int) - 1))) rfl rfl rfl ?_
      refine g_v1 (t := 6) (u := (.int .i64 r_31)) (.int .i64 r_31) h6 rfl rfl ?_
      refine g_v1 (t := 29) (u := (.int .i64 r_31)) (.int .i64 (w64 (2 * r_31))) rfl rfl rfl ?_
      refine g_v2 (t1 := 28) (t2 := 30) (u1 := (.int .i64 (w64 ((r_35.length : Int) - 1)))) (u2 := (.int .i64 (w64 (2 * r_31)))) (.int .i64 (w64 ((w64 ((r_35.length : Int) - 1)) + (w64 (2 * r_31))))) rfl rfl rfl rfl ?_
      refine g_v1 (t := 31) (u := (.int .i64 (w64 ((w64 ((r_35.length : Int) - 1)) + (w64 (2 * r_31)))))) (.int .i64 (w64 ((w64 ((w64 ((r_35.length : Int) - 1)) + (w64 (2 * r_31)))) - 1))) rfl rfl rfl ?_
      refine g_v1 (t := 6) (u := (.int .i64 r_31)) (.int .i64 r_31) h6 rfl rfl ?_
      refine g_v1 (t := 33) (u := (.int .i64 r_31)) (.int .i64 (w64 (2 * r_31))) rfl rfl rfl ?_
      obtain ⟨q_36, E_q_36, h⟩ := bind_some h
      refine g_v (.int .i64 q_36) (ev_quo rfl rfl E_q_36) ?_
      obtain ⟨r_37, E_r_37, h⟩ := bind_some h
      refine g_call (m := 0) (al := false) (r := (Enc.enc (r_37 : Int))) [Enc.enc (most_30 : Int), Enc.enc (q_36 : Int)] (ta_cons (v := (.int .i64 most_30)) rfl rfl rfl (ta_cons (v := (.int .i64 q_36)) rfl rfl rfl ta_nil)) (H.c45 _ _ _ E_r_37) H.g45 rfl rfl rfl rfl ?_
      refine g_v1 (t := 36) (u := (.int .i64 r_37)) (.int .i64 r_37) rfl rfl rfl ?_
      refine g_end ?_
      refine e_end ?_
      refine renew [(1, (.ref (.bx 1) 0 [] (.agg [(.int .i64 g_1.1), (Enc.enc (g_1.2 : List (Int × Int)))]))), (2, (.int .i64 0)), (3, (.bool false)), (4, (.int .i64 r_37)), (5, (.int .i64 x_15)), (6, (.int .i64 r_31))] ⟨h1, h2, h3, rfl, h5, h6⟩ ?_
      rintro s ⟨h1, h2, h3, h4, h5, h6⟩
      refine .nbk ?_
      refine .nsq ?_
      refine run_reg ?_
      refine e_end ?_
      refine g_v1 (t := 6) (u := (.int .i64 r_31)) (.int .i64 r_31) h6 rfl rfl ?_
      refine g_v1 (t := 20) (u := (.int .i64 r_31)) (.int .i64 (w64 (r_31 + 1))) rfl rfl rfl ?_
      refine g_v1 (t := 21) (u := (.int .i64 (w64 (r_31 + 1)))) (.int .i64 (w64 (r_31 + 1))) rfl rfl rfl ?_
      refine g_end ?_
      refine e_end ?_
      refine renew [(1, (.ref (.bx 1) 0 [] (.agg [(.int .i64 g_1.1), (Enc.enc (g_1.2 : List (Int × Int)))]))), (2, (.int .i64 0)), (3, (.bool false)), (4, (.int .i64 r_37)), (5, (.int .i64 x_15)), (6, (.int .i64 (w64 (r_31 + 1))))] ⟨h1, h2, h3, h4, h5, rfl⟩ ?_
      rintro s ⟨h1, h2, h3, h4, h5, h6⟩
      refine .nlp ?_
      exact ih r_37 (w64 (r_31 + 1)) _ ⟨h1, h2, h3, h4, h5, h6⟩ h
    · refine .exit ?_
      refine .esq ?_
      refine .elp ?_
      refine .ebk ?_
      refine .nbk ?_
      refine .nsq ?_
      refine run_reg ?_
      refine e_end ?_
      refine g_v1 (t := 5) (u := (.int .i64 x_15)) (.int .i64 x_15) h5 rfl rfl ?_
      refine g_v1 (t := 14) (u := (.int .i64 x_15)) (.int .i64 (w64 (x_15 + 1))) rfl rfl rfl ?_
      refine g_v1 (t := 15) (u := (.int .i64 (w64 (x_15 + 1)))) (.int .i64 (w64 (x_15 + 1))) rfl rfl rfl ?_
      refine g_end ?_
      refine e_end ?_
      refine renew [(1, (.ref (.bx 1) 0 [] (.agg [(.int .i64 g_1.1), (Enc.enc (g_1.2 : List (Int × Int)))]))), (2, (.int .i64 0)), (3, (.bool false)), (4, (.int .i64 most_30)), (5, (.int .i64 (w64 (x_15 + 1))))] ⟨h1, h2, h3, h4, rfl⟩ ?_
      rintro s ⟨h1, h2, h3, h4, h5⟩
      refine .nlp ?_
      exact Hc1 most_30 (w64 (x_15 + 1)) _ ⟨h1, h2, h3, h4, h5⟩ h
def s_BandwidthBound_l2 (F : Nat) (g_1 : (Int × (List (Int × Int))))  : Nat → Int → Int → Option (Int × Bool)
  | 0, _, _ => none
  | k + 1, most_14, x_15 =>
    bif decide (x_15 < g_1.1) then
      s_BandwidthBound_l1 F g_1 x_15 (s_BandwidthBound_l2 F g_1 k) F most_14 1
    else
      some (most_14, true)
theorem t_f25_l2 (H : H25 D σ F) (g_1 : (Int × (List (Int × Int))))  : ∀ (k : Nat) (most_14 : Int) (x_15 : Int) (s : Nat → V), Facts [(1, (.ref (.bx 1) 0 [] (.agg [(.int .i64 g_1.1), (Enc.enc (g_1.2 : List (Int × Int)))]))), (2, (.int .i64 0)), (3, (.bool false)), (4, (.int .i64 most_14)), (5, (.int .i64 x_15))] s → s_BandwidthBound_l2 F g_1 k most_14 x_15 = some r → Run D σ (R25 r) (.run A25_1 [.lp A25_1, .bk 0, .sq A25_10]) s := by
  intro k
  induction k with
  | zero => intro most_14 x_15 s _ h; exact nomatch (h : (none : Option _) = some r)
  | succ k ih =>
    intro most_14 x_15 s hs h
    rw [s_BandwidthBound_l2] at h
    obtain ⟨h1, h2, h3, h4, h5⟩ := hs
    refine .seq ?_
    refine .seq ?_
    refine run_reg ?_
    refine e_end ?_
    refine g_v1 (t := 5) (u := (.int .i64 x_15)) (.int .i64 x_15) h5 rfl rfl ?_
    refine g_v1 (t := 1) (u := (.ref (.bx 1) 0 [] (.agg [(.int .i64 g_1.1), (Enc.enc (g_1.2 : List (Int × Int)))]))) (.ref (.bx 1) 0 [0] (.int .i64 g_1.1)) h1 rfl rfl ?_
    refine g_v1 (t := 11) (u := (.ref (.bx 1) 0 [0] (.int .i64 g_1.1))) (.int .i64 g_1.1) rfl rfl rfl ?_
    refine g_v2 (t1 := 10) (t2 := 12) (u1 := (.int .i64 x_15)) (u2 := (.int .i64 g_1.1)) (.bool (decide (x_15 < g_1.1))) rfl rfl rfl rfl ?_
    refine g_end ?_
    refine e_end ?_
    refine renew [(1, (.ref (.bx 1) 0 [] (.agg [(.int .i64 g_1.1), (Enc.enc (g_1.2 : List (Int × Int)))]))), (2, (.int .i64 0)), (3, (.bool false)), (4, (.int .i64 most_14)), (5, (.int .i64 x_15)), (13, (.bool (decide (x_15 < g_1.1))))] ⟨h1, h2, h3, h4, h5, rfl⟩ ?_
    rintro s ⟨h1, h2, h3, h4, h5, h13⟩
    refine .nsq ?_
    refine run_cond (t := decide (x_15 < g_1.1)) h13 h (fun h => ?_) (fun h => ?_)
    · refine .skip ?_
      refine .nsq ?_
      refine .seq ?_
      refine .block ?_
      refine .seq ?_
      refine run_reg ?_
      refine e_end ?_
      refine g_v0 (.int .i64 1) rfl rfl ?_
      refine g_end ?_
      refine e_end ?_
      refine renew [(1, (.ref (.bx 1) 0 [] (.agg [(.int .i64 g_1.1), (Enc.enc (g_1.2 : List (Int × Int)))]))), (2, (.int .i64 0)), (3, (.bool false)), (4, (.int .i64 most_14)), (5, (.int .i64 x_15)), (6, (.int .i64 1))] ⟨h1, h2, h3, h4, h5, rfl⟩ ?_
      rintro s ⟨h1, h2, h3, h4, h5, h6⟩
      refine .nsq ?_
      refine .block ?_
      refine .loop ?_
      exact t_f25_l1 H g_1 x_15 (s_BandwidthBound_l2 F g_1 k) ih F most_14 1 _ ⟨h1, h2, h3, h4, h5, h6⟩ h
    · refine .exit ?_
      refine .esq ?_
      refine .elp ?_
      refine .ebk ?_
      refine .nsq ?_
      refine .seq ?_
      refine run_reg ?_
      refine e_end ?_
      refine g_v1 (t := 4) (u := (.int .i64 most_14)) (.int .i64 most_14) h4 rfl rfl ?_
      refine g_v1 (t := 37) (u := (.int .i64 most_14)) (.int .i64 most_14) rfl rfl rfl ?_
      refine g_v0 (.bool true) rfl rfl ?_
      refine g_end ?_
      refine e_end ?_
      refine renew [(2, (.int .i64 most_14)), (3, (.bool true))] ⟨rfl, rfl⟩ ?_
      rintro s ⟨h2, h3⟩
      refine .nsq ?_
      refine .ret ?_
      have hr := Option.some.inj h
      subst hr
      exact rrB (res_tmp h2) (res_tmp h3) rfl
def s_BandwidthBound (F : Nat) (g_1 : (Int × (List (Int × Int)))) : Option (Int × Bool) :=
  (s_l2Good F g_1).bind fun r_2 =>
  bif (!r_2) then
    some (0, false)
  else
    s_BandwidthBound_l2 F g_1 F 0 0
theorem t25 (H : H25 D σ F) (g_1 : (Int × (List (Int × Int)))) (s : Nat → V) (hs : Facts [(0, (.agg [(.int .i64 g_1.1), (Enc.enc (g_1.2 : List (Int × Int)))]))] s) (h : s_BandwidthBound F g_1 = some r) : Run D σ (R25 r) (.run A25 []) s := by
  unfold s_BandwidthBound at h
  have h0 := hs
  refine .seq ?_
  refine run_reg ?_
  refine e_clr ?_
  refine e_end ?_
  refine g_box (.agg [(.int .i64 g_1.1), (Enc.enc (g_1.2 : List (Int × Int)))]) (rd_of (keep_clear (s := s) (pk := [1]) h0 rfl (map_agg (maps_cons rfl (maps_cons (Enc.map_enc _ (g_1.2 : List (Int × Int))) maps_nil)))) rfl) (gone_clear (s := s) (pk := [1]) (t := 1) rfl) rfl ?_
  refine g_v0 (.int .i64 0) rfl rfl ?_
  refine g_v0 (.bool false) rfl rfl ?_
  refine g_end ?_
  refine e_end ?_
  refine renew [(1, (.ref (.bx 1) 0 [] (.agg [(.int .i64 g_1.1), (Enc.enc (g_1.2 : List (Int × Int)))]))), (2, (.int .i64 0)), (3, (.bool false))] ⟨rfl, rfl, rfl⟩ ?_
  rintro s ⟨h1, h2, h3⟩
  refine .nsq ?_
  refine .seq ?_
  refine .seq ?_
  refine run_reg ?_
  refine e_end ?_
  refine g_v1 (t := 1) (u := (.ref (.bx 1) 0 [] (.agg [(.int .i64 g_1.1), (Enc.enc (g_1.2 : List (Int × Int)))]))) (.agg [(.int .i64 g_1.1), (Enc.enc (g_1.2 : List (Int × Int)))]) h1 rfl rfl ?_
  obtain ⟨r_2, E_r_2, h⟩ := bind_some h
  refine g_call (m := 0) (al := false) (r := (Enc.enc (r_2 : Bool))) [Enc.enc (g_1 : (Int × (List (Int × Int))))] (ta_cons (v := (.agg [(.int .i64 g_1.1), (Enc.enc (g_1.2 : List (Int × Int)))])) rfl rfl (Enc.erase_enc (g_1 : (Int × (List (Int × Int))))) ta_nil) (H.c30 _ _ E_r_2) H.g30 rfl rfl rfl rfl ?_
  refine g_v1 (t := 8) (u := (.bool r_2)) (.bool (!r_2)) rfl rfl rfl ?_
  refine g_end ?_
  refine e_end ?_
  refine renew [(1, (.ref (.bx 1) 0 [] (.agg [(.int .i64 g_1.1), (Enc.enc (g_1.2 : List (Int × Int)))]))), (2, (.int .i64 0)), (3, (.bool false)), (9, (.bool (!r_2)))] ⟨h1, h2, h3, rfl⟩ ?_
  rintro s ⟨h1, h2, h3, h9⟩
  refine .nsq ?_
  refine run_cond (t := (!r_2)) h9 h (fun h => ?_) (fun h => ?_)
  · refine .seq ?_
    refine run_reg ?_
    refine e_end ?_
    refine g_v0 (.int .i64 0) rfl rfl ?_
    refine g_v0 (.bool false) rfl rfl ?_
    refine g_end ?_
    refine e_end ?_
    refine renew [(1, (.ref (.bx 1) 0 [] (.agg [(.int .i64 g_1.1), (Enc.enc (g_1.2 : List (Int × Int)))]))), (2, (.int .i64 0)), (3, (.bool false))] ⟨h1, rfl, rfl⟩ ?_
    rintro s ⟨h1, h2, h3⟩
    refine .nsq ?_
    refine .ret ?_
    have hr := Option.some.inj h
    subst hr
    exact rrB (res_tmp h2) (res_tmp h3) rfl
  · refine .skip ?_
    refine .nsq ?_
    refine .seq ?_
    refine run_reg ?_
    refine e_end ?_
    refine g_v0 (.int .i64 0) rfl rfl ?_
    refine g_end ?_
    refine e_end ?_
    refine renew [(1, (.ref (.bx 1) 0 [] (.agg [(.int .i64 g_1.1), (Enc.enc (g_1.2 : List (Int × Int)))]))), (2, (.int .i64 0)), (3, (.bool false)), (4, (.int .i64 0))] ⟨h1, h2, h3, rfl⟩ ?_
    rintro s ⟨h1, h2, h3, h4⟩
    refine .nsq ?_
    refine .seq ?_
    refine .seq ?_
    refine run_reg ?_
    refine e_end ?_
    refine g_v0 (.int .i64 0) rfl rfl ?_
    refine g_end ?_
    refine e_end ?_
    refine renew [(1, (.ref (.bx 1) 0 [] (.agg [(.int .i64 g_1.1), (Enc.enc (g_1.2 : List (Int × Int)))]))), (2, (.int .i64 0)), (3, (.bool false)), (4, (.int .i64 0)), (5, (.int .i64 0))] ⟨h1, h2, h3, h4, rfl⟩ ?_
    rintro s ⟨h1, h2, h3, h4, h5⟩
    refine .nsq ?_
    refine .block ?_
    refine .loop ?_
    exact t_f25_l2 H g_1 F 0 0 _ ⟨h1, h2, h3, h4, h5⟩ h
end
def e25 (F : Nat) : Ent := ⟨25, dn1 (s_BandwidthBound F) (fun (r : (Int × Bool)) => (.tup [Enc.enc (r.1 : Int), Enc.enc (r.2 : Bool)])), 0, false⟩
theorem o25 {D : Den} {σ : Sig} {F : Nat} (hF : Fits2 Try.prog D σ) (H : H25 D σ F) : (e25 F).Ok Try.prog := by
  refine ⟨fun args r h => ?_, ⟨Try.f25, Try.func25, rfl, rfl⟩⟩
  obtain ⟨x0, y, rfl, hy, rfl⟩ := dn1_open h
  exact contract_run hF (by kernel_rfl) Try.func25 rfl c25 (show 1 ≤ Try.f25.ntmps by decide) (t25 H x0 _ rfl hy)
/- loop.example/g01109/impl.within -/
def A60_1 : AC := (AC.seq (AC.reg [] [(I.mk (some 7) none false (X.v (A.mov (O.t 0)))), (I.mk (some 8) none false (X.v (A.mov (O.t 1)))), (I.mk (some 9) none false (X.v (A.bin BinOp.geq (O.t 7) (O.t 8)))), (I.mk (some 10) none false (X.v (A.mov (O.t 9)))), (I.mk (some 11) (some (10, true)) false (X.v (A.mov (O.t 0)))), (I.mk (some 12) (some (10, true)) false (X.v (A.mov (O.t 2)))), (I.mk (some 13) (some (10, true)) false (X.v (A.bin BinOp.leq (O.t 11) (O.t 12)))), (I.mk (some 14) none false (X.v (A.pick (O.t 10) (O.t 13) (O.k (V.bool false))))), (I.mk (some 6) none false (X.v (A.mov (O.t 14))))] []) AC.ret)
def A60 : AC := (AC.seq (AC.reg [] [(I.mk (some 6) none false (X.v (A.mov (O.k (V.bool false)))))] []) A60_1)
def an60 : List An := []
theorem c60 : cC Try.prog Try.f60.ntmps an60 (Try.f60.body.getD .skip) = some A60 := by kernel_rfl
structure H60 (D : Den) (σ : Sig) (F : Nat) : Prop where
  mk ::
abbrev R60 (r : Bool) : (Nat → V) → Prop := RR Try.prog [.tmp 6] 0 false (Enc.enc (r : Bool))
section
variable {D : Den} {σ : Sig} {F : Nat} {r : Bool}
def i_within (F : Nat) (n_1 : Int) (low_2 : Int) (high_3 : Int) : Option Bool :=
  bif decide (n_1 ≥ low_2) then
    some (decide (n_1 ≤ high_3))
  else
    some false
theorem t60 (H : H60 D σ F) (n_1 : Int) (low_2 : Int) (high_3 : Int) (s : Nat → V) (hs : Facts [(0, (.int .i64 n_1)), (1, (.int .i64 low_2)), (2, (.int .i64 high_3))] s) (h : i_within F n_1 low_2 high_3 = some r) : Run D σ (R60 r) (.run A60 []) s := by
  unfold i_within at h
  obtain ⟨h0, h1, h2⟩ := hs
  refine .seq ?_
  refine run_reg ?_
  refine e_end ?_
  refine g_v0 (.bool false) rfl rfl ?_
  refine g_end ?_
  refine e_end ?_
  refine renew [(0, (.int .i64 n_1)), (1, (.int .i64 low_2)), (2, (.int .i64 high_3)), (6, (.bool false))] ⟨h0, h1, h2, rfl⟩ ?_
  rintro s ⟨h0, h1, h2, h6⟩
  refine .nsq ?_
  refine .seq ?_
  refine run_reg ?_
  refine e_end ?_
  refine g_v1 (t := 0) (u := (.int .i64 n_1)) (.int .i64 n_1) h0 rfl rfl ?_
  refine g_v1 (t := 1) (u := (.int .i64 low_2)) (.int .i64 low_2) h1 rfl rfl ?_
  refine g_v2 (t1 := 7) (t2 := 8) (u1 := (.int .i64 n_1)) (u2 := (.int .i64 low_2)) (.bool (decide (n_1 ≥ low_2))) rfl rfl rfl rfl ?_
  refine g_v1 (t := 9) (u := (.bool (decide (n_1 ≥ low_2)))) (.bool (decide (n_1 ≥ low_2))) rfl rfl rfl ?_
  refine split_on (c := decide (n_1 ≥ low_2)) h (fun hg4 h => ?_) (fun hg4 h => ?_)
  · refine g_yes (Eq.trans (b := .bool (decide (n_1 ≥ low_2))) rfl (congrArg V.bool hg4)) (g_v1 (t := 0) (u := (.int .i64 n_1)) (.int .i64 n_1) h0 rfl rfl ?_)
    refine g_yes (Eq.trans (b := .bool (decide (n_1 ≥ low_2))) rfl (congrArg V.bool hg4)) (g_v1 (t := 2) (u := (.int .i64 high_3)) (.int .i64 high_3) h2 rfl rfl ?_)
    refine g_yes (Eq.trans (b := .bool (decide (n_1 ≥ low_2))) rfl (congrArg V.bool hg4)) (g_v2 (t1 := 11) (t2 := 12) (u1 := (.int .i64 n_1)) (u2 := (.int .i64 high_3)) (.bool (decide (n_1 ≤ high_3))) rfl rfl rfl rfl ?_)
    refine g_v2 (t1 := 10) (t2 := 13) (u1 := (.bool true)) (u2 := (.bool (decide (n_1 ≤ high_3)))) (.bool (decide (n_1 ≤ high_3))) (Eq.trans (b := .bool (decide (n_1 ≥ low_2))) rfl (congrArg V.bool hg4)) rfl rfl rfl ?_
    refine g_v1 (t := 14) (u := (.bool (decide (n_1 ≤ high_3)))) (.bool (decide (n_1 ≤ high_3))) rfl rfl rfl ?_
    refine g_end ?_
    refine e_end ?_
    refine renew [(6, (.bool (decide (n_1 ≤ high_3))))] rfl ?_
    rintro s h6
    refine .nsq ?_
    refine .ret ?_
    have hr := Option.some.inj h
    subst hr
    exact rrA (res_tmp h6) rfl
  · refine g_no (Eq.trans (b := .bool (decide (n_1 ≥ low_2))) rfl (congrArg V.bool hg4)) ?_
    refine g_no (Eq.trans (b := .bool (decide (n_1 ≥ low_2))) rfl (congrArg V.bool hg4)) ?_
    refine g_no (Eq.trans (b := .bool (decide (n_1 ≥ low_2))) rfl (congrArg V.bool hg4)) ?_
    refine g_v2 (t1 := 10) (t2 := 13) (u1 := (.bool false)) (u2 := (.tup [])) (.bool false) (Eq.trans (b := .bool (decide (n_1 ≥ low_2))) rfl (congrArg V.bool hg4)) rfl rfl rfl ?_
    refine g_v1 (t := 14) (u := (.bool false)) (.bool false) rfl rfl rfl ?_
    refine g_end ?_
    refine e_end ?_
    refine renew [(6, (.bool false))] rfl ?_
    rintro s h6
    refine .nsq ?_
    refine .ret ?_
    have hr := Option.some.inj h
    subst hr
    exact rrA (res_tmp h6) rfl
end
def e60 (F : Nat) : Ent := ⟨60, dn3 (i_within F) (fun (r : Bool) => (Enc.enc (r : Bool))), 0, false⟩
theorem o60 {D : Den} {σ : Sig} {F : Nat} (hF : Fits2 Try.prog D σ) (H : H60 D σ F) : (e60 F).Ok Try.prog := by
  refine ⟨fun args r h => ?_, ⟨Try.f60, Try.func60, rfl, rfl⟩⟩
  obtain ⟨x0, x1, x2, y, rfl, hy, rfl⟩ := dn3_open h
  exact contract_run hF (by kernel_rfl) Try.func60 rfl c60 (show 3 ≤ Try.f60.ntmps by decide) (t60 H x0 x1 x2 _ ⟨rfl, rfl, rfl⟩ hy)
end Go.Zq
