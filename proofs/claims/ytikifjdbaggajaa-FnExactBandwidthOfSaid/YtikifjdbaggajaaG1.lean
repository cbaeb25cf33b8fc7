/- Functions of the program as typed functions, and that the machine runs as they say (part 1). No further condition. -/
import Derived.Test.YtikifjdbaggajaaK2
import Derived.Test.YtikifjdbaggajaaProg
import Derived.Test.YtikifjdbaggajaaChecked
import Derived.KernelRfl
set_option linter.unusedVariables false
set_option linter.unusedSimpArgs false
/- Functions of the program, as typed functions, and that the machine runs as they say. -/
namespace Go.Zq
open Go.Proofs
/- loop.example/g01109/laws.szIntA2S -/
def A29_3 : AC := (AC.cond (O.t 10) (AC.seq (AC.reg [] [(I.mk (some 4) none false (X.v (A.mov (O.k (V.int IntKind.i64 (Int.negSucc 0))))))] []) AC.ret) AC.skip)
def A29_4 : AC := (AC.seq (AC.reg [] [(I.mk (some 11) none false (X.v (A.mov (O.t 1)))), (I.mk (some 4) none false (X.v (A.mov (O.t 11))))] []) AC.ret)
def A29_2 : AC := (AC.seq (AC.seq (AC.reg [] [(I.mk (some 9) none false (X.v (A.mov (O.t 1)))), (I.mk (some 10) none false (X.v (A.bin BinOp.lss (O.t 9) (O.k (V.int IntKind.i64 (Int.ofNat 0))))))] []) A29_3) A29_4)
def A29_1 : AC := (AC.seq (AC.reg [] [(I.mk (some 5) none false (X.v (A.mov (O.t 1)))), (I.mk (some 6) none false (X.v (A.mov (O.t 0)))), (I.mk (some 7) none false (X.v (A.len (O.t 6)))), (I.mk (some 8) none false (X.v (A.bin BinOp.sub (O.t 5) (O.t 7)))), (I.mk (some 1) none false (X.v (A.mov (O.t 8))))] []) A29_2)
def A29 : AC := (AC.seq (AC.reg [] [(I.mk (some 4) none false (X.v (A.mov (O.k (V.int IntKind.i64 (Int.ofNat 0))))))] []) A29_1)
def an29 : List An := []
theorem c29 : cC Try.prog Try.f29.ntmps an29 (Try.f29.body.getD .skip) = some A29 := by rfl
structure H29 (D : Den) (σ : Sig) (F : Nat) : Prop where
  mk ::
abbrev R29 (r : Int) : (Nat → V) → Prop := RR Try.prog [.tmp 4] 0 false (Enc.enc (r : Int))
section
variable {D : Den} {σ : Sig} {F : Nat} {r : Int}
def w_szIntA2S (F : Nat) (a_1 : (List (Int × Int))) (left_2 : Int) : Option Int :=
  bif decide ((w64 (left_2 - (a_1.length : Int))) < 0) then
    some (-1)
  else
    some (w64 (left_2 - (a_1.length : Int)))
theorem t29 (H : H29 D σ F) (a_1 : (List (Int × Int))) (left_2 : Int) (s : Nat → V) (hs : Facts [(0, (Enc.enc (a_1 : List (Int × Int)))), (1, (.int .i64 left_2))] s) (h : w_szIntA2S F a_1 left_2 = some r) : Run D σ (R29 r) (.run A29 []) s := by
  unfold w_szIntA2S at h
  obtain ⟨h0, h1⟩ := hs
  refine .seq ?_
  refine run_reg ?_
  refine e_end ?_
  refine g_v0 (.int .i64 0) rfl rfl ?_
  refine g_end ?_
  refine e_end ?_
  refine renew [(0, (Enc.enc (a_1 : List (Int × Int)))), (1, (.int .i64 left_2)), (4, (.int .i64 0))] ⟨h0, h1, rfl⟩ ?_
  rintro s ⟨h0, h1, h4⟩
  refine .nsq ?_
  refine .seq ?_
  refine run_reg ?_
  refine e_end ?_
  refine g_v1 (t := 1) (u := (.int .i64 left_2)) (.int .i64 left_2) h1 rfl rfl ?_
  refine g_v1 (t := 0) (u := (Enc.enc (a_1 : List (Int × Int)))) (Enc.enc (a_1 : List (Int × Int))) h0 rfl rfl ?_
  refine g_v (.int .i64 (a_1.length : Int)) (ev_len (xs := a_1) rfl) ?_
  refine g_v2 (t1 := 5) (t2 := 7) (u1 := (.int .i64 left_2)) (u2 := (.int .i64 (a_1.length : Int))) (.int .i64 (w64 (left_2 - (a_1.length : Int)))) rfl rfl rfl rfl ?_
  refine g_v1 (t := 8) (u := (.int .i64 (w64 (left_2 - (a_1.length : Int))))) (.int .i64 (w64 (left_2 - (a_1.length : Int)))) rfl rfl rfl ?_
  refine g_end ?_
  refine e_end ?_
  refine renew [(1, (.int .i64 (w64 (left_2 - (a_1.length : Int))))), (4, (.int .i64 0))] ⟨rfl, h4⟩ ?_
  rintro s ⟨h1, h4⟩
  refine .nsq ?_
  refine .seq ?_
  refine .seq ?_
  refine run_reg ?_
  refine e_end ?_
  refine g_v1 (t := 1) (u := (.int .i64 (w64 (left_2 - (a_1.length : Int))))) (.int .i64 (w64 (left_2 - (a_1.length : Int)))) h1 rfl rfl ?_
  refine g_v1 (t := 9) (u := (.int .i64 (w64 (left_2 - (a_1.length : Int))))) (.bool (decide ((w64 (left_2 - (a_1.length : Int))) < 0))) rfl rfl rfl ?_
  refine g_end ?_
  refine e_end ?_
  refine renew [(1, (.int .i64 (w64 (left_2 - (a_1.length : Int))))), (4, (.int .i64 0)), (10, (.bool (decide ((w64 (left_2 - (a_1.length : Int))) < 0))))] ⟨h1, h4, rfl⟩ ?_
  rintro s ⟨h1, h4, h10⟩
  refine .nsq ?_
  refine run_cond (t := decide ((w64 (left_2 - (a_1.length : Int))) < 0)) h10 h (fun h => ?_) (fun h => ?_)
  · refine .seq ?_
    refine run_reg ?_
    refine e_end ?_
    refine g_v0 (.int .i64 (-1)) rfl rfl ?_
    refine g_end ?_
    refine e_end ?_
    refine renew [(1, (.int .i64 (w64 (left_2 - (a_1.length : Int))))), (4, (.int .i64 (-1)))] ⟨h1, rfl⟩ ?_
    rintro s ⟨h1, h4⟩
    refine .nsq ?_
    refine .ret ?_
    have hr := Option.some.inj h
    subst hr
    exact rrA (res_tmp h4) rfl
  · refine .skip ?_
    refine .nsq ?_
    refine .seq ?_
    refine run_reg ?_
    refine e_end ?_
    refine g_v1 (t := 1) (u := (.int .i64 (w64 (left_2 - (a_1.length : Int))))) (.int .i64 (w64 (left_2 - (a_1.length : Int)))) h1 rfl rfl ?_
    refine g_v1 (t := 11) (u := (.int .i64 (w64 (left_2 - (a_1.length : Int))))) (.int .i64 (w64 (left_2 - (a_1.length : Int)))) rfl rfl rfl ?_
    refine g_end ?_
    refine e_end ?_
    refine renew [(4, (.int .i64 (w64 (left_2 - (a_1.length : Int)))))] rfl ?_
    rintro s h4
    refine .nsq ?_
    refine .ret ?_
    have hr := Option.some.inj h
    subst hr
    exact rrA (res_tmp h4) rfl
end
def e29 (F : Nat) : Ent := ⟨29, dn2 (w_szIntA2S F) (fun (r : Int) => (Enc.enc (r : Int))), 0, false⟩
theorem o29 {D : Den} {σ : Sig} {F : Nat} (hF : Fits2 Try.prog D σ) (H : H29 D σ F) : (e29 F).Ok Try.prog := by
  refine ⟨fun args r h => ?_, ⟨Try.f29, Try.func29, rfl, rfl⟩⟩
  obtain ⟨x0, x1, y, rfl, hy, rfl⟩ := dn2_open h
  exact contract_run hF (by kernel_rfl) Try.func29 rfl c29 (show 2 ≤ Try.f29.ntmps by decide) (t29 H x0 x1 _ ⟨rfl, rfl⟩ hy)
/- loop.example/g01109/laws.szGraph -/
def A9_3 : AC := (AC.cond (O.t 10) (AC.seq (AC.reg [] [(I.mk (some 4) none false (X.v (A.mov (O.k (V.int IntKind.i64 (Int.negSucc 0))))))] []) AC.ret) AC.skip)
def A9_4 : AC := (AC.seq (AC.reg [] [(I.mk (some 11) none false (X.v (A.mov (O.t 1)))), (I.mk (some 4) none false (X.v (A.mov (O.t 11))))] []) AC.ret)
def A9_2 : AC := (AC.seq (AC.seq (AC.reg [] [(I.mk (some 9) none false (X.v (A.mov (O.t 1)))), (I.mk (some 10) none false (X.v (A.bin BinOp.lss (O.t 9) (O.k (V.int IntKind.i64 (Int.ofNat 0))))))] []) A9_3) A9_4)
def A9_1 : AC := (AC.seq (AC.reg [] [(I.mk (some 5) none false (X.v (A.fld (O.t 2) 1 1))), (I.mk (some 6) none false (X.v (A.load Sh.p (O.t 5)))), (I.mk (some 7) none false (X.v (A.mov (O.t 1)))), (I.mk (some 8) none false (X.call (O.k (V.fn 29 [] [])) [(O.t 6), (O.t 7)])), (I.mk (some 1) none false (X.v (A.mov (O.t 8))))] []) A9_2)
def A9 : AC := (AC.seq (AC.reg [.clr [2]] [(I.mk (some 2) none false (X.box (O.t 0))), (I.mk (some 4) none false (X.v (A.mov (O.k (V.int IntKind.i64 (Int.ofNat 0))))))] []) A9_1)
def an9 : List An := [{ id := 0, pre := [.clr [2]], ep := [] }]
theorem c9 : cC Try.prog Try.f9.ntmps an9 (Try.f9.body.getD .skip) = some A9 := by rfl
structure H9 (D : Den) (σ : Sig) (F : Nat) : Prop where
  c29 : ∀ x0 x1 r, w_szIntA2S F x0 x1 = some r → D 29 [Enc.enc x0, Enc.enc x1] = some (Enc.enc (r : Int))
  g29 : σ 29 = some (0, false)
abbrev R9 (r : Int) : (Nat → V) → Prop := RR Try.prog [.tmp 4] 0 false (Enc.enc (r : Int))
section
variable {D : Den} {σ : Sig} {F : Nat} {r : Int}
def w_szGraph (F : Nat) (a_1 : (Int × (List (Int × Int)))) (left_2 : Int) : Option Int :=
  (w_szIntA2S F a_1.2 left_2).bind fun r_3 =>
  bif decide (r_3 < 0) then
    some (-1)
  else
    some r_3
theorem t9 (H : H9 D σ F) (a_1 : (Int × (List (Int × Int)))) (left_2 : Int) (s : Nat → V) (hs : Facts [(0, (.agg [(.int .i64 a_1.1), (Enc.enc (a_1.2 : List (Int × Int)))])), (1, (.int .i64 left_2))] s) (h : w_szGraph F a_1 left_2 = some r) : Run D σ (R9 r) (.run A9 []) s := by
  unfold w_szGraph at h
  obtain ⟨h0, h1⟩ := hs
  refine .seq ?_
  refine run_reg ?_
  refine e_clr ?_
  refine e_end ?_
  refine g_box (.agg [(.int .i64 a_1.1), (Enc.enc (a_1.2 : List (Int × Int)))]) (rd_of (keep_clear (s := s) (pk := [2]) h0 rfl (map_agg (maps_cons rfl (maps_cons (Enc.map_enc _ (a_1.2 : List (Int × Int))) maps_nil)))) rfl) (gone_clear (s := s) (pk := [2]) (t := 2) rfl) rfl ?_
  refine g_v0 (.int .i64 0) rfl rfl ?_
  refine g_end ?_
  refine e_end ?_
  refine renew [(1, (.int .i64 left_2)), (2, (.ref (.bx 2) 0 [] (.agg [(.int .i64 a_1.1), (Enc.enc (a_1.2 : List (Int × Int)))]))), (4, (.int .i64 0))] ⟨(keep_clear (s := s) (pk := [2]) h1 rfl rfl), rfl, rfl⟩ ?_
  rintro s ⟨h1, h2, h4⟩
  refine .nsq ?_
  refine .seq ?_
  refine run_reg ?_
  refine e_end ?_
  refine g_v1 (t := 2) (u := (.ref (.bx 2) 0 [] (.agg [(.int .i64 a_1.1), (Enc.enc (a_1.2 : List (Int × Int)))]))) (.ref (.bx 2) 0 [1] (Enc.enc (a_1.2 : List (Int × Int)))) h2 rfl rfl ?_
  refine g_v1 (t := 5) (u := (.ref (.bx 2) 0 [1] (Enc.enc (a_1.2 : List (Int × Int))))) (Enc.enc (a_1.2 : List (Int × Int))) rfl rfl rfl ?_
  refine g_v1 (t := 1) (u := (.int .i64 left_2)) (.int .i64 left_2) h1 rfl rfl ?_
  obtain ⟨r_3, E_r_3, h⟩ := bind_some h
  refine g_call (m := 0) (al := false) (r := (Enc.enc (r_3 : Int))) [Enc.enc (a_1.2 : (List (Int × Int))), Enc.enc (left_2 : Int)] (ta_cons (v := (Enc.enc (a_1.2 : List (Int × Int)))) rfl rfl (Enc.erase_enc (a_1.2 : (List (Int × Int)))) (ta_cons (v := (.int .i64 left_2)) rfl rfl rfl ta_nil)) (H.c29 _ _ _ E_r_3) H.g29 rfl rfl rfl rfl ?_
  refine g_v1 (t := 8) (u := (.int .i64 r_3)) (.int .i64 r_3) rfl rfl rfl ?_
  refine g_end ?_
  refine e_end ?_
  refine renew [(1, (.int .i64 r_3)), (4, (.int .i64 0))] ⟨rfl, h4⟩ ?_
  rintro s ⟨h1, h4⟩
  refine .nsq ?_
  refine .seq ?_
  refine .seq ?_
  refine run_reg ?_
  refine e_end ?_
  refine g_v1 (t := 1) (u := (.int .i64 r_3)) (.int .i64 r_3) h1 rfl rfl ?_
  refine g_v1 (t := 9) (u := (.int .i64 r_3)) (.bool (decide (r_3 < 0))) rfl rfl rfl ?_
  refine g_end ?_
  refine e_end ?_
  refine renew [(1, (.int .i64 r_3)), (4, (.int .i64 0)), (10, (.bool (decide (r_3 < 0))))] ⟨h1, h4, rfl⟩ ?_
  rintro s ⟨h1, h4, h10⟩
  refine .nsq ?_
  refine run_cond (t := decide (r_3 < 0)) h10 h (fun h => ?_) (fun h => ?_)
  · refine .seq ?_
    refine run_reg ?_
    refine e_end ?_
    refine g_v0 (.int .i64 (-1)) rfl rfl ?_
    refine g_end ?_
    refine e_end ?_
    refine renew [(1, (.int .i64 r_3)), (4, (.int .i64 (-1)))] ⟨h1, rfl⟩ ?_
    rintro s ⟨h1, h4⟩
    refine .nsq ?_
    refine .ret ?_
    have hr := Option.some.inj h
    subst hr
    exact rrA (res_tmp h4) rfl
  · refine .skip ?_
    refine .nsq ?_
    refine .seq ?_
    refine run_reg ?_
    refine e_end ?_
    refine g_v1 (t := 1) (u := (.int .i64 r_3)) (.int .i64 r_3) h1 rfl rfl ?_
    refine g_v1 (t := 11) (u := (.int .i64 r_3)) (.int .i64 r_3) rfl rfl rfl ?_
    refine g_end ?_
    refine e_end ?_
    refine renew [(4, (.int .i64 r_3))] rfl ?_
    rintro s h4
    refine .nsq ?_
    refine .ret ?_
    have hr := Option.some.inj h
    subst hr
    exact rrA (res_tmp h4) rfl
end
def e9 (F : Nat) : Ent := ⟨9, dn2 (w_szGraph F) (fun (r : Int) => (Enc.enc (r : Int))), 0, false⟩
theorem o9 {D : Den} {σ : Sig} {F : Nat} (hF : Fits2 Try.prog D σ) (H : H9 D σ F) : (e9 F).Ok Try.prog := by
  refine ⟨fun args r h => ?_, ⟨Try.f9, Try.func9, rfl, rfl⟩⟩
  obtain ⟨x0, x1, y, rfl, hy, rfl⟩ := dn2_open h
  exact contract_run hF (by kernel_rfl) Try.func9 rfl c9 (show 2 ≤ Try.f9.ntmps by decide) (t9 H x0 x1 _ ⟨rfl, rfl⟩ hy)
/- loop.example/g01109/laws.toIntA2 -/
def A59_2 : AC := (AC.cond (O.t 6) AC.skip (AC.exit 0))
def A59_4 : AC := (AC.reg [] [(I.mk (some 7) none false (X.v (A.mov (O.t 4)))), (I.mk (some 8) none false (X.v (A.bin BinOp.add (O.t 7) (O.k (V.int IntKind.i64 (Int.ofNat 1)))))), (I.mk (some 4) none false (X.v (A.mov (O.t 8))))] [])
def A59_3 : AC := (AC.seq (AC.block 1 (AC.reg [] [(I.mk (some 9) none false (X.v (A.mov (O.t 4)))), (I.mk (some 10) none false (X.v (A.mov (O.t 4)))), (I.mk (some 11) none false (X.v (A.idxA (O.t 1) (O.t 10) 2 1))), (I.mk (some 12) none false (X.v (A.load Sh.s (O.t 11)))), (I.mk (some 13) none false (X.v (A.idxA (O.t 3) (O.t 9) 2 1))), (I.mk none none false (X.store Sh.s (O.t 13) (O.t 12)))] [])) A59_4)
def A59_1 : AC := (AC.seq (AC.seq (AC.reg [] [(I.mk (some 5) none false (X.v (A.mov (O.t 4)))), (I.mk (some 6) none false (X.v (A.bin BinOp.lss (O.t 5) (O.k (V.int IntKind.i64 (Int.ofNat 2))))))] []) A59_2) A59_3)
def A59_5 : AC := (AC.seq (AC.reg [] [(I.mk (some 14) none false (X.v (A.load (Sh.ag [Sh.s, Sh.s]) (O.t 3)))), (I.mk none none false (X.store (Sh.ag [Sh.s, Sh.s]) (O.t 2) (O.t 14)))] []) AC.ret)
def A59_8 : AC := (AC.block 0 (AC.loop A59_1))
def A59_7 : AC := (AC.seq (AC.seq (AC.reg [] [(I.mk (some 4) none false (X.v (A.mov (O.k (V.int IntKind.i64 (Int.ofNat 0))))))] []) A59_8) A59_5)
def A59_6 : AC := (AC.seq (AC.reg [.clr [3]] [(I.mk (some 3) none false (X.alloc (V.agg [(V.int IntKind.i64 (Int.ofNat 0)), (V.int IntKind.i64 (Int.ofNat 0))])))] []) A59_7)
def A59 : AC := (AC.seq (AC.reg [.clr [1, 2]] [(I.mk (some 1) none false (X.box (O.t 0))), (I.mk (some 2) none false (X.alloc (V.agg [(V.int IntKind.i64 (Int.ofNat 0)), (V.int IntKind.i64 (Int.ofNat 0))])))] []) A59_6)
def an59 : List An := [{ id := 0, pre := [.clr [1, 2]], ep := [] }, { id := 1, pre := [.clr [3]], ep := [] }]
theorem c59 : cC Try.prog Try.f59.ntmps an59 (Try.f59.body.getD .skip) = some A59 := by rfl
structure H59 (D : Den) (σ : Sig) (F : Nat) : Prop where
  mk ::
abbrev R59 (r : (Int × Int)) : (Nat → V) → Prop := RR Try.prog [.cell 2 50] 0 true (Enc.enc (r : (Int × Int)))
section
variable {D : Den} {σ : Sig} {F : Nat} {r : (Int × Int)}
def w_toIntA2_l1 (F : Nat) (a_1 : (Int × Int))  : Nat → Int → Int → Int → Option (Int × Int)
  | 0, _, _, _ => none
  | k + 1, out_2, i_3, out_6 =>
    bif decide (i_3 < 2) then
      (idx [a_1.1, a_1.2] i_3).bind fun e_9 =>
      (idx [out_2, out_6] i_3).bind fun e_10 =>
      (w_toIntA2_l1 F a_1 k) (bif i_3 == 0 then e_9 else out_2) (w64 (i_3 + 1)) (bif i_3 == 1 then e_9 else out_6)
    else
      some (out_2, out_6)
theorem t_f59_l1 (H : H59 D σ F) (a_1 : (Int × Int))  : ∀ (k : Nat) (out_2 : Int) (i_3 : Int) (out_6 : Int) (s : Nat → V), Facts [(1, (.ref (.bx 1) 0 [] (.agg [(.int .i64 a_1.1), (.int .i64 a_1.2)]))), (2, (.ref (.bx 2) 0 [] (.agg [(.int .i64 0), (.int .i64 0)]))), (3, (.ref (.bx 3) 0 [] (.agg [(.int .i64 out_2), (.int .i64 out_6)]))), (4, (.int .i64 i_3))] s → w_toIntA2_l1 F a_1 k out_2 i_3 out_6 = some r → Run D σ (R59 r) (.run A59_1 [.lp A59_1, .bk 0, .sq A59_5]) s := by
  intro k
  induction k with
  | zero => intro out_2 i_3 out_6 s _ h; exact nomatch (h : (none : Option _) = some r)
  | succ k ih =>
    intro out_2 i_3 out_6 s hs h
    rw [w_toIntA2_l1] at h
    obtain ⟨h1, h2, h3, h4⟩ := hs
    refine .seq ?_
    refine .seq ?_
    refine run_reg ?_
    refine e_end ?_
    refine g_v1 (t := 4) (u := (.int .i64 i_3)) (.int .i64 i_3) h4 rfl rfl ?_
    refine g_v1 (t := 5) (u := (.int .i64 i_3)) (.bool (decide (i_3 < 2))) rfl rfl rfl ?_
    refine g_end ?_
    refine e_end ?_
    refine renew [(1, (.ref (.bx 1) 0 [] (.agg [(.int .i64 a_1.1), (.int .i64 a_1.2)]))), (2, (.ref (.bx 2) 0 [] (.agg [(.int .i64 0), (.int .i64 0)]))), (3, (.ref (.bx 3) 0 [] (.agg [(.int .i64 out_2), (.int .i64 out_6)]))), (4, (.int .i64 i_3)), (6, (.bool (decide (i_3 < 2))))] ⟨h1, h2, h3, h4, rfl⟩ ?_
    rintro s ⟨h1, h2, h3, h4, h6⟩
    refine .nsq ?_
    refine run_cond (t := decide (i_3 < 2)) h6 h (fun h => ?_) (fun h => ?_)
    · refine .skip ?_
      refine .nsq ?_
      refine .seq ?_
      refine .block ?_
      refine run_reg ?_
      refine e_end ?_
      refine g_v1 (t := 4) (u := (.int .i64 i_3)) (.int .i64 i_3) h4 rfl rfl ?_
      refine g_v1 (t := 4) (u := (.int .i64 i_3)) (.int .i64 i_3) h4 rfl rfl ?_
      obtain ⟨e_9, E_e_9, h⟩ := bind_some h
      refine g_v (.ref (.bx 1) 0 [i_3.toNat] (.int .i64 e_9)) (ev_idxA (xs := [a_1.1, a_1.2]) (a := e_9) (n := i_3) (q := []) h1 rfl E_e_9 rfl rfl rfl) ?_
      refine g_v1 (t := 11) (u := (.ref (.bx 1) 0 [i_3.toNat] (.int .i64 e_9))) (.int .i64 e_9) rfl rfl rfl ?_
      obtain ⟨e_10, E_e_10, h⟩ := bind_some h
      refine g_v (.ref (.bx 3) 0 [i_3.toNat] (.int .i64 e_10)) (ev_idxA (xs := [out_2, out_6]) (a := e_10) (n := i_3) (q := []) h3 rfl E_e_10 rfl rfl rfl) ?_
      refine g_store (.int .i64 e_9) (rd_of rfl rfl) (rd_of rfl rfl) (by refine ⟨by decide, by decide, rfl, rfl, rfl, ?_⟩; first | rfl | simp [V.toks, V.tokss, Enc.toks_enc]) ?_
      refine g_end ?_
      refine e_end ?_
      refine renew [(1, (.ref (.bx 1) 0 [] (.agg [(.int .i64 a_1.1), (.int .i64 a_1.2)]))), (2, (.ref (.bx 2) 0 [] (.agg [(.int .i64 0), (.int .i64 0)]))), (3, (.ref (.bx 3) 0 [] (.agg [(.int .i64 (bif i_3 == 0 then e_9 else out_2)), (.int .i64 (bif i_3 == 1 then e_9 else out_6))]))), (4, (.int .i64 i_3))] ⟨(keep_mut h1 rfl), (keep_mut h2 rfl), (keep_mut h3 (mut_ix2 E_e_10 rfl)), (keep_mut h4 rfl)⟩ ?_
      rintro s ⟨h1, h2, h3, h4⟩
      refine .nbk ?_
      refine .nsq ?_
      refine run_reg ?_
      refine e_end ?_
      refine g_v1 (t := 4) (u := (.int .i64 i_3)) (.int .i64 i_3) h4 rfl rfl ?_
      refine g_v1 (t := 7) (u := (.int .i64 i_3)) (.int .i64 (w64 (i_3 + 1))) rfl rfl rfl ?_
      refine g_v1 (t := 8) (u := (.int .i64 (w64 (i_3 + 1)))) (.int .i64 (w64 (i_3 + 1))) rfl rfl rfl ?_
      refine g_end ?_
      refine e_end ?_
      refine renew [(1, (.ref (.bx 1) 0 [] (.agg [(.int .i64 a_1.1), (.int .i64 a_1.2)]))), (2, (.ref (.bx 2) 0 [] (.agg [(.int .i64 0), (.int .i64 0)]))), (3, (.ref (.bx 3) 0 [] (.agg [(.int .i64 (bif i_3 == 0 then e_9 else out_2)), (.int .i64 (bif i_3 == 1 then e_9 else out_6))]))), (4, (.int .i64 (w64 (i_3 + 1))))] ⟨h1, h2, h3, rfl⟩ ?_
      rintro s ⟨h1, h2, h3, h4⟩
      refine .nlp ?_
      exact ih (bif i_3 == 0 then e_9 else out_2) (w64 (i_3 + 1)) (bif i_3 == 1 then e_9 else out_6) _ ⟨h1, h2, h3, h4⟩ h
    · refine .exit ?_
      refine .esq ?_
      refine .elp ?_
      refine .ebk ?_
      refine .nsq ?_
      refine .seq ?_
      refine run_reg ?_
      refine e_end ?_
      refine g_v1 (t := 3) (u := (.ref (.bx 3) 0 [] (.agg [(.int .i64 out_2), (.int .i64 out_6)]))) (.agg [(.int .i64 out_2), (.int .i64 out_6)]) h3 rfl rfl ?_
      refine g_store (.agg [(.int .i64 out_2), (.int .i64 out_6)]) (rd_of h2 rfl) (rd_of rfl rfl) (by refine ⟨by decide, by decide, rfl, rfl, rfl, ?_⟩; first | rfl | simp [V.toks, V.tokss, Enc.toks_enc]) ?_
      refine g_end ?_
      refine e_end ?_
      refine renew [(2, (.ref (.bx 2) 0 [] (.agg [(.int .i64 out_2), (.int .i64 out_6)])))] (keep_mut h2 rfl) ?_
      rintro s h2
      refine .nsq ?_
      refine .ret ?_
      have hr := Option.some.inj h
      subst hr
      exact rrA (res_cell h2 rfl) (fin_ret1 (fin_enc (x := ((out_2, out_6) : (Int × Int)))))
def w_toIntA2 (F : Nat) (a_1 : (Int × Int)) : Option (Int × Int) :=
  w_toIntA2_l1 F a_1 F 0 0 0
theorem t59 (H : H59 D σ F) (a_1 : (Int × Int)) (s : Nat → V) (hs : Facts [(0, (.agg [(.int .i64 a_1.1), (.int .i64 a_1.2)]))] s) (h : w_toIntA2 F a_1 = some r) : Run D σ (R59 r) (.run A59 []) s := by
  unfold w_toIntA2 at h
  have h0 := hs
  refine .seq ?_
  refine run_reg ?_
  refine e_clr ?_
  refine e_end ?_
  refine g_box (.agg [(.int .i64 a_1.1), (.int .i64 a_1.2)]) (rd_of (keep_clear (s := s) (pk := [1, 2]) h0 rfl (map_agg (maps_cons rfl (maps_cons rfl maps_nil)))) rfl) (gone_clear (s := s) (pk := [1, 2]) (t := 1) rfl) rfl ?_
  refine g_alloc (gone_clear (s := s) (pk := [1, 2]) (t := 2) rfl) ?_
  refine g_end ?_
  refine e_end ?_
  refine renew [(1, (.ref (.bx 1) 0 [] (.agg [(.int .i64 a_1.1), (.int .i64 a_1.2)]))), (2, (.ref (.bx 2) 0 [] (.agg [(.int .i64 0), (.int .i64 0)])))] ⟨rfl, rfl⟩ ?_
  rintro s ⟨h1, h2⟩
  refine .nsq ?_
  refine .seq ?_
  refine run_reg ?_
  refine e_clr ?_
  refine e_end ?_
  refine g_alloc (gone_clear (s := s) (pk := [3]) (t := 3) rfl) ?_
  refine g_end ?_
  refine e_end ?_
  refine renew [(1, (.ref (.bx 1) 0 [] (.agg [(.int .i64 a_1.1), (.int .i64 a_1.2)]))), (2, (.ref (.bx 2) 0 [] (.agg [(.int .i64 0), (.int .i64 0)]))), (3, (.ref (.bx 3) 0 [] (.agg [(.int .i64 0), (.int .i64 0)])))] ⟨(keep_clear (s := s) (pk := [3]) h1 rfl (map_bx rfl (map_agg (maps_cons rfl (maps_cons rfl maps_nil))))), (keep_clear (s := s) (pk := [3]) h2 rfl (map_bx rfl (map_agg (maps_cons rfl (maps_cons rfl maps_nil))))), rfl⟩ ?_
  rintro s ⟨h1, h2, h3⟩
  refine .nsq ?_
  refine .seq ?_
  refine .seq ?_
  refine run_reg ?_
  refine e_end ?_
  refine g_v0 (.int .i64 0) rfl rfl ?_
  refine g_end ?_
  refine e_end ?_
  refine renew [(1, (.ref (.bx 1) 0 [] (.agg [(.int .i64 a_1.1), (.int .i64 a_1.2)]))), (2, (.ref (.bx 2) 0 [] (.agg [(.int .i64 0), (.int .i64 0)]))), (3, (.ref (.bx 3) 0 [] (.agg [(.int .i64 0), (.int .i64 0)]))), (4, (.int .i64 0))] ⟨h1, h2, h3, rfl⟩ ?_
  rintro s ⟨h1, h2, h3, h4⟩
  refine .nsq ?_
  refine .block ?_
  refine .loop ?_
  exact t_f59_l1 H a_1 F 0 0 0 _ ⟨h1, h2, h3, h4⟩ h
end
def e59 (F : Nat) : Ent := ⟨59, dn1 (w_toIntA2 F) (fun (r : (Int × Int)) => (Enc.enc (r : (Int × Int)))), 0, true⟩
theorem o59 {D : Den} {σ : Sig} {F : Nat} (hF : Fits2 Try.prog D σ) (H : H59 D σ F) : (e59 F).Ok Try.prog := by
  refine ⟨fun args r h => ?_, ⟨Try.f59, Try.func59, rfl, rfl⟩⟩
  obtain ⟨x0, y, rfl, hy, rfl⟩ := dn1_open h
  exact contract_run hF (by kernel_rfl) Try.func59 rfl c59 (show 1 ≤ Try.f59.ntmps by decide) (t59 H x0 _ rfl hy)
/- loop.example/g01109/laws.toIntA2S -/
def A32_2 : AC := (AC.cond (O.t 11) AC.skip (AC.exit 0))
def A32_4 : AC := (AC.reg [] [(I.mk (some 12) none false (X.v (A.mov (O.t 4)))), (I.mk (some 13) none false (X.v (A.bin BinOp.add (O.t 12) (O.k (V.int IntKind.i64 (Int.ofNat 1)))))), (I.mk (some 4) none false (X.v (A.mov (O.t 13))))] [])
def A32_3 : AC := (AC.seq (AC.block 1 (AC.reg [] [(I.mk (some 14) none false (X.v (A.mov (O.t 3)))), (I.mk (some 15) none false (X.v (A.mov (O.t 4)))), (I.mk (some 16) none false (X.v (A.mov (O.t 0)))), (I.mk (some 17) none false (X.v (A.mov (O.t 4)))), (I.mk (some 18) none false (X.v (A.idx (O.t 16) (O.t 17) 2))), (I.mk (some 19) none false (X.v (A.load (Sh.ag [Sh.s, Sh.s]) (O.t 18)))), (I.mk (some 20) none false (X.call (O.k (V.fn 59 [] [])) [(O.t 19)])), (I.mk (some 21) none false (X.v (A.idx (O.t 14) (O.t 15) 2))), (I.mk none none false (X.store (Sh.ag [Sh.s, Sh.s]) (O.t 21) (O.t 20)))] [])) A32_4)
def A32_1 : AC := (AC.seq (AC.seq (AC.reg [] [(I.mk (some 8) none false (X.v (A.mov (O.t 4)))), (I.mk (some 9) none false (X.v (A.mov (O.t 0)))), (I.mk (some 10) none false (X.v (A.len (O.t 9)))), (I.mk (some 11) none false (X.v (A.bin BinOp.lss (O.t 8) (O.t 10))))] []) A32_2) A32_3)
def A32_5 : AC := (AC.seq (AC.reg [] [(I.mk (some 22) none false (X.v (A.mov (O.t 3)))), (I.mk (some 2) none false (X.v (A.mov (O.t 22))))] [.home 3 2]) AC.ret)
def A32_8 : AC := (AC.block 0 (AC.loop A32_1))
def A32_7 : AC := (AC.seq (AC.seq (AC.reg [] [(I.mk (some 4) none false (X.v (A.mov (O.k (V.int IntKind.i64 (Int.ofNat 0))))))] []) A32_8) A32_5)
def A32_6 : AC := (AC.seq (AC.reg [.clr [7]] [(I.mk (some 5) none false (X.v (A.mov (O.t 0)))), (I.mk (some 6) none false (X.v (A.len (O.t 5)))), (I.mk (some 7) none false (X.mk (O.t 6) (V.agg [(V.int IntKind.i64 (Int.ofNat 0)), (V.int IntKind.i64 (Int.ofNat 0))]))), (I.mk (some 3) none false (X.v (A.mov (O.t 7))))] [.home 7 3]) A32_7)
def A32 : AC := (AC.seq (AC.reg [] [(I.mk (some 2) none false (X.v (A.mov (O.k (V.sl Tok.nl (Sh.ag [Sh.s, Sh.s]) 0 [])))))] []) A32_6)
def an32 : List An := [{ id := 1, pre := [.clr [7]], ep := [.home 7 3] }, { id := 6, pre := [], ep := [.home 3 2] }]
theorem c32 : cC Try.prog Try.f32.ntmps an32 (Try.f32.body.getD .skip) = some A32 := by rfl
structure H32 (D : Den) (σ : Sig) (F : Nat) : Prop where
  c59 : ∀ x0 r, w_toIntA2 F x0 = some r → D 59 [Enc.enc x0] = some (Enc.enc (r : (Int × Int)))
  g59 : σ 59 = some (0, true)
abbrev R32 (r : (List (Int × Int))) : (Nat → V) → Prop := RR Try.prog [.tmp 2] 0 true (Enc.enc (r : (List (Int × Int))))
section
variable {D : Den} {σ : Sig} {F : Nat} {r : (List (Int × Int))}
def w_toIntA2S_l1 (F : Nat) (a_1 : (List (Int × Int)))  : Nat → (List (Int × Int)) → Int → Option (List (Int × Int))
  | 0, _, _ => none
  | k + 1, out_6, i_7 =>
    bif decide (i_7 < (a_1.length : Int)) then
      (idx a_1 i_7).bind fun e_11 =>
      (w_toIntA2 F e_11).bind fun r_12 =>
      (idx out_6 i_7).bind fun e_13 =>
      (w_toIntA2S_l1 F a_1 k) (out_6.set i_7.toNat r_12) (w64 (i_7 + 1))
    else
      some out_6
theorem t_f32_l1 (H : H32 D σ F) (a_1 : (List (Int × Int)))  : ∀ (k : Nat) (out_6 : (List (Int × Int))) (i_7 : Int) (s : Nat → V), Facts [(0, (Enc.enc (a_1 : List (Int × Int)))), (2, (.sl .nl (Enc.shp (Int × Int)) 0 [])), (3, (encO (.at 3 []) (.of (out_6 : List (Int × Int))))), (4, (.int .i64 i_7))] s → w_toIntA2S_l1 F a_1 k out_6 i_7 = some r → Run D σ (R32 r) (.run A32_1 [.lp A32_1, .bk 0, .sq A32_5]) s := by
  intro k
  induction k with
  | zero => intro out_6 i_7 s _ h; exact nomatch (h : (none : Option _) = some r)
  | succ k ih =>
    intro out_6 i_7 s hs h
    rw [w_toIntA2S_l1] at h
    obtain ⟨h0, h2, h3, h4⟩ := hs
    refine .seq ?_
    refine .seq ?_
    refine run_reg ?_
    refine e_end ?_
    refine g_v1 (t := 4) (u := (.int .i64 i_7)) (.int .i64 i_7) h4 rfl rfl ?_
    refine g_v1 (t := 0) (u := (Enc.enc (a_1 : List (Int × Int)))) (Enc.enc (a_1 : List (Int × Int))) h0 rfl rfl ?_
    refine g_v (.int .i64 (a_1.length : Int)) (ev_len (xs := a_1) rfl) ?_
    refine g_v2 (t1 := 8) (t2 := 10) (u1 := (.int .i64 i_7)) (u2 := (.int .i64 (a_1.length : Int))) (.bool (decide (i_7 < (a_1.length : Int)))) rfl rfl rfl rfl ?_
    refine g_end ?_
    refine e_end ?_
    refine renew [(0, (Enc.enc (a_1 : List (Int × Int)))), (2, (.sl .nl (Enc.shp (Int × Int)) 0 [])), (3, (encO (.at 3 []) (.of (out_6 : List (Int × Int))))), (4, (.int .i64 i_7)), (11, (.bool (decide (i_7 < (a_1.length : Int)))))] ⟨h0, h2, h3, h4, rfl⟩ ?_
    rintro s ⟨h0, h2, h3, h4, h11⟩
    refine .nsq ?_
    refine run_cond (t := decide (i_7 < (a_1.length : Int))) h11 h (fun h => ?_) (fun h => ?_)
    · refine .skip ?_
      refine .nsq ?_
      refine .seq ?_
      refine .block ?_
      refine run_reg ?_
      refine e_end ?_
      refine g_v1 (t := 3) (u := (encO (.at 3 []) (.of (out_6 : List (Int × Int))))) (encO (.at 3 []) (.of (out_6 : List (Int × Int)))) h3 rfl rfl ?_
      refine g_v1 (t := 4) (u := (.int .i64 i_7)) (.int .i64 i_7) h4 rfl rfl ?_
      refine g_v1 (t := 0) (u := (Enc.enc (a_1 : List (Int × Int)))) (Enc.enc (a_1 : List (Int × Int))) h0 rfl rfl ?_
      refine g_v1 (t := 4) (u := (.int .i64 i_7)) (.int .i64 i_7) h4 rfl rfl ?_
      obtain ⟨e_11, E_e_11, h⟩ := bind_some h
      refine g_v (.ref .sh 0 [] (.agg [(.int .i64 e_11.1), (.int .i64 e_11.2)])) (ev_idx (t := .sh) (lo := 0) (xs := a_1) rfl rfl E_e_11 rfl rfl) ?_
      refine g_v1 (t := 18) (u := (.ref .sh 0 [] (.agg [(.int .i64 e_11.1), (.int .i64 e_11.2)]))) (.agg [(.int .i64 e_11.1), (.int .i64 e_11.2)]) rfl rfl rfl ?_
      obtain ⟨r_12, E_r_12, h⟩ := bind_some h
      refine g_call (m := 0) (al := true) (r := (Enc.enc (r_12 : (Int × Int)))) [Enc.enc (e_11 : (Int × Int))] (ta_cons (v := (.agg [(.int .i64 e_11.1), (.int .i64 e_11.2)])) rfl rfl (Enc.erase_enc (e_11 : (Int × Int))) ta_nil) (H.c59 _ _ E_r_12) H.g59 (hal_of (ht_cons (v := (.agg [(.int .i64 e_11.1), (.int .i64 e_11.2)])) rfl rfl rfl ht_nil)) rfl rfl rfl ?_
      obtain ⟨e_13, E_e_13, h⟩ := bind_some h
      refine g_v (.ref (.at 3 []) i_7.toNat [] (.agg [(.int .i64 e_13.1), (.int .i64 e_13.2)])) (ev_idxO (o := (.of out_6)) rfl rfl E_e_13 rfl) ?_
      refine g_store (.agg [(.int .i64 r_12.1), (.int .i64 r_12.2)]) (rd_of rfl rfl) (rd_of rfl rfl) (by refine ⟨by decide, by decide, rfl, rfl, rfl, ?_⟩; first | rfl | simp [V.toks, V.tokss, Enc.toks_enc]) ?_
      refine g_end ?_
      refine e_end ?_
      refine renew [(0, (Enc.enc (a_1 : List (Int × Int)))), (2, (.sl .nl (Enc.shp (Int × Int)) 0 [])), (3, (encO (.at 3 []) (.of (out_6.set i_7.toNat r_12 : List (Int × Int))))), (4, (.int .i64 i_7))] ⟨(keep_mut h0 (Enc.mut_enc _ _ _ _ (a_1 : List (Int × Int)))), (keep_mut h2 rfl), (keep_mut h3 mut_own), (keep_mut h4 rfl)⟩ ?_
      rintro s ⟨h0, h2, h3, h4⟩
      refine .nbk ?_
      refine .nsq ?_
      refine run_reg ?_
      refine e_end ?_
      refine g_v1 (t := 4) (u := (.int .i64 i_7)) (.int .i64 i_7) h4 rfl rfl ?_
      refine g_v1 (t := 12) (u := (.int .i64 i_7)) (.int .i64 (w64 (i_7 + 1))) rfl rfl rfl ?_
      refine g_v1 (t := 13) (u := (.int .i64 (w64 (i_7 + 1)))) (.int .i64 (w64 (i_7 + 1))) rfl rfl rfl ?_
      refine g_end ?_
      refine e_end ?_
      refine renew [(0, (Enc.enc (a_1 : List (Int × Int)))), (2, (.sl .nl (Enc.shp (Int × Int)) 0 [])), (3, (encO (.at 3 []) (.of (out_6.set i_7.toNat r_12 : List (Int × Int))))), (4, (.int .i64 (w64 (i_7 + 1))))] ⟨h0, h2, h3, rfl⟩ ?_
      rintro s ⟨h0, h2, h3, h4⟩
      refine .nlp ?_
      exact ih (out_6.set i_7.toNat r_12) (w64 (i_7 + 1)) _ ⟨h0, h2, h3, h4⟩ h
    · refine .exit ?_
      refine .esq ?_
      refine .elp ?_
      refine .ebk ?_
      refine .nsq ?_
      refine .seq ?_
      refine run_reg ?_
      refine e_end ?_
      refine g_v1 (t := 3) (u := (encO (.at 3 []) (.of (out_6 : List (Int × Int))))) (encO (.at 3 []) (.of (out_6 : List (Int × Int)))) h3 rfl rfl ?_
      refine g_v1 (t := 22) (u := (encO (.at 3 []) (.of (out_6 : List (Int × Int))))) (encO (.at 3 []) (.of (out_6 : List (Int × Int)))) rfl rfl rfl ?_
      refine g_end ?_
      refine e_home (r := 3) (x := 2) (v := (encO (.at 3 []) (.of (out_6 : List (Int × Int))))) (by exact rfl) rfl (fun s_3 hg_3 => ?_)
      refine e_end ?_
      refine renew [(2, (encO (.at 2 []) (.of (out_6 : List (Int × Int)))))] (hg_3 2 (encO (.at 3 []) (.of (out_6 : List (Int × Int)))) (encO (.at 2 []) (.of (out_6 : List (Int × Int)))) rfl (map_encO (r := 3) (p := []) rfl rfl)) ?_
      rintro s h2
      refine .nsq ?_
      refine .ret ?_
      have hr := Option.some.inj h
      subst hr
      exact rrA (res_tmp h2) (fin_ret1 (fin_own (o := .of out_6)))
def w_toIntA2S (F : Nat) (a_1 : (List (Int × Int))) : Option (List (Int × Int)) :=
  (mkN (a_1.length : Int) (0, 0)).bind fun mk_2 =>
  w_toIntA2S_l1 F a_1 F mk_2 0
theorem t32 (H : H32 D σ F) (a_1 : (List (Int × Int))) (s : Nat → V) (hs : Facts [(0, (Enc.enc (a_1 : List (Int × Int))))] s) (h : w_toIntA2S F a_1 = some r) : Run D σ (R32 r) (.run A32 []) s := by
  unfold w_toIntA2S at h
  have h0 := hs
  refine .seq ?_
  refine run_reg ?_
  refine e_end ?_
  refine g_v0 (.sl .nl (Enc.shp (Int × Int)) 0 []) rfl rfl ?_
  refine g_end ?_
  refine e_end ?_
  refine renew [(0, (Enc.enc (a_1 : List (Int × Int)))), (2, (.sl .nl (Enc.shp (Int × Int)) 0 []))] ⟨h0, rfl⟩ ?_
  rintro s ⟨h0, h2⟩
  refine .nsq ?_
  refine .seq ?_
  refine run_reg ?_
  refine e_clr ?_
  refine e_end ?_
  refine g_v1 (t := 0) (u := (Enc.enc (a_1 : List (Int × Int)))) (Enc.enc (a_1 : List (Int × Int))) (keep_clear (s := s) (pk := [7]) h0 rfl (Enc.map_enc _ (a_1 : List (Int × Int)))) rfl rfl ?_
  refine g_v (.int .i64 (a_1.length : Int)) (ev_len (xs := a_1) rfl) ?_
  obtain ⟨mk_2, E_mk_2, h⟩ := bind_some h
  refine g_mk ((0, 0) : (Int × Int)) rfl rfl (gone_clear (s := s) (pk := [7]) (t := 7) rfl) E_mk_2 ?_
  refine g_v1 (t := 7) (u := (encO (.at 7 []) (.of (mk_2 : List (Int × Int))))) (encO (.at 7 []) (.of (mk_2 : List (Int × Int)))) rfl rfl rfl ?_
  refine g_end ?_
  refine e_home (r := 7) (x := 3) (v := (encO (.at 7 []) (.of (mk_2 : List (Int × Int))))) (by exact rfl) rfl (fun s_2 hg_2 => ?_)
  refine e_end ?_
  refine renew [(0, (Enc.enc (a_1 : List (Int × Int)))), (2, (.sl .nl (Enc.shp (Int × Int)) 0 [])), (3, (encO (.at 3 []) (.of (mk_2 : List (Int × Int)))))] ⟨(hg_2 0 (Enc.enc (a_1 : List (Int × Int))) (Enc.enc (a_1 : List (Int × Int))) (keep_clear (s := s) (pk := [7]) h0 rfl (Enc.map_enc _ (a_1 : List (Int × Int)))) (Enc.map_enc _ (a_1 : List (Int × Int)))), (hg_2 2 (.sl .nl (Enc.shp (Int × Int)) 0 []) (.sl .nl (Enc.shp (Int × Int)) 0 []) (keep_clear (s := s) (pk := [7]) h2 rfl rfl) rfl), (hg_2 3 (encO (.at 7 []) (.of (mk_2 : List (Int × Int)))) (encO (.at 3 []) (.of (mk_2 : List (Int × Int)))) rfl (map_encO (r := 7) (p := []) rfl rfl))⟩ ?_
  rintro s ⟨h0, h2, h3⟩
  refine .nsq ?_
  refine .seq ?_
  refine .seq ?_
  refine run_reg ?_
  refine e_end ?_
  refine g_v0 (.int .i64 0) rfl rfl ?_
  refine g_end ?_
  refine e_end ?_
  refine renew [(0, (Enc.enc (a_1 : List (Int × Int)))), (2, (.sl .nl (Enc.shp (Int × Int)) 0 [])), (3, (encO (.at 3 []) (.of (mk_2 : List (Int × Int))))), (4, (.int .i64 0))] ⟨h0, h2, h3, rfl⟩ ?_
  rintro s ⟨h0, h2, h3, h4⟩
  refine .nsq ?_
  refine .block ?_
  refine .loop ?_
  exact t_f32_l1 H a_1 F mk_2 0 _ ⟨h0, h2, h3, h4⟩ h
end
def e32 (F : Nat) : Ent := ⟨32, dn1 (w_toIntA2S F) (fun (r : (List (Int × Int))) => (Enc.enc (r : (List (Int × Int))))), 0, true⟩
theorem o32 {D : Den} {σ : Sig} {F : Nat} (hF : Fits2 Try.prog D σ) (H : H32 D σ F) : (e32 F).Ok Try.prog := by
  refine ⟨fun args r h => ?_, ⟨Try.f32, Try.func32, rfl, rfl⟩⟩
  obtain ⟨x0, y, rfl, hy, rfl⟩ := dn1_open h
  exact contract_run hF (by kernel_rfl) Try.func32 rfl c32 (show 1 ≤ Try.f32.ntmps by decide) (t32 H x0 _ rfl hy)
/- loop.example/g01109/laws.toGraph -/
def A11_4 : AC := (AC.seq (AC.reg [] [(I.mk (some 11) none false (X.v (A.load (Sh.ag [Sh.s, Sh.p]) (O.t 3)))), (I.mk none none false (X.store (Sh.ag [Sh.s, Sh.p]) (O.t 2) (O.t 11)))] []) AC.ret)
def A11_3 : AC := (AC.seq (AC.reg [] [(I.mk (some 7) none false (X.v (A.fld (O.t 1) 1 1))), (I.mk (some 8) none false (X.v (A.load Sh.p (O.t 7)))), (I.mk (some 9) none false (X.call (O.k (V.fn 32 [] [])) [(O.t 8)])), (I.mk (some 10) none false (X.v (A.fld (O.t 3) 1 1))), (I.mk none none false (X.store Sh.p (O.t 10) (O.t 9)))] []) A11_4)
def A11_2 : AC := (AC.seq (AC.reg [] [(I.mk (some 4) none false (X.v (A.fld (O.t 1) 0 0))), (I.mk (some 5) none false (X.v (A.load Sh.s (O.t 4)))), (I.mk (some 6) none false (X.v (A.fld (O.t 3) 0 0))), (I.mk none none false (X.store Sh.s (O.t 6) (O.t 5)))] []) A11_3)
def A11_1 : AC := (AC.seq (AC.reg [.clr [3]] [(I.mk (some 3) none false (X.alloc (V.agg [(V.int IntKind.i64 (Int.ofNat 0)), (V.sl Tok.nl (Sh.ag [Sh.s, Sh.s]) 0 [])])))] []) A11_2)
def A11 : AC := (AC.seq (AC.reg [.clr [1, 2]] [(I.mk (some 1) none false (X.box (O.t 0))), (I.mk (some 2) none false (X.alloc (V.agg [(V.int IntKind.i64 (Int.ofNat 0)), (V.sl Tok.nl (Sh.ag [Sh.s, Sh.s]) 0 [])])))] []) A11_1)
def an11 : List An := [{ id := 0, pre := [.clr [1, 2]], ep := [] }, { id := 1, pre := [.clr [3]], ep := [] }]
theorem c11 : cC Try.prog Try.f11.ntmps an11 (Try.f11.body.getD .skip) = some A11 := by rfl
structure H11 (D : Den) (σ : Sig) (F : Nat) : Prop where
  c32 : ∀ x0 r, w_toIntA2S F x0 = some r → D 32 [Enc.enc x0] = some (Enc.enc (r : (List (Int × Int))))
  g32 : σ 32 = some (0, true)
abbrev R11 (r : (Int × (List (Int × Int)))) : (Nat → V) → Prop := RR Try.prog [.cell 2 29] 0 true (Enc.enc (r : (Int × (List (Int × Int)))))
section
variable {D : Den} {σ : Sig} {F : Nat} {r : (Int × (List (Int × Int)))}
def w_toGraph (F : Nat) (a_1 : (Int × (List (Int × Int)))) : Option (Int × (List (Int × Int))) :=
  (w_toIntA2S F a_1.2).bind fun r_2 =>
  some (a_1.1, r_2)
theorem t11 (H : H11 D σ F) (a_1 : (Int × (List (Int × Int)))) (s : Nat → V) (hs : Facts [(0, (.agg [(.int .i64 a_1.1), (Enc.enc (a_1.2 : List (Int × Int)))]))] s) (h : w_toGraph F a_1 = some r) : Run D σ (R11 r) (.run A11 []) s := by
  unfold w_toGraph at h
  have h0 := hs
  refine .seq ?_
  refine run_reg ?_
  refine e_clr ?_
  refine e_end ?_
  refine g_box (.agg [(.int .i64 a_1.1), (Enc.enc (a_1.2 : List (Int × Int)))]) (rd_of (keep_clear (s := s) (pk := [1, 2]) h0 rfl (map_agg (maps_cons rfl (maps_cons (Enc.map_enc _ (a_1.2 : List (Int × Int))) maps_nil)))) rfl) (gone_clear (s := s) (pk := [1, 2]) (t := 1) rfl) rfl ?_
  refine g_alloc (gone_clear (s := s) (pk := [1, 2]) (t := 2) rfl) ?_
  refine g_end ?_
  refine e_end ?_
  refine renew [(1, (.ref (.bx 1) 0 [] (.agg [(.int .i64 a_1.1), (Enc.enc (a_1.2 : List (Int × Int)))]))), (2, (.ref (.bx 2) 0 [] (.agg [(.int .i64 0), (.sl .nl (Enc.shp (Int × Int)) 0 [])])))] ⟨rfl, rfl⟩ ?_
  rintro s ⟨h1, h2⟩
  refine .nsq ?_
  refine .seq ?_
  refine run_reg ?_
  refine e_clr ?_
  refine e_end ?_
  refine g_alloc (gone_clear (s := s) (pk := [3]) (t := 3) rfl) ?_
  refine g_end ?_
  refine e_end ?_
  refine renew [(1, (.ref (.bx 1) 0 [] (.agg [(.int .i64 a_1.1), (Enc.enc (a_1.2 : List (Int × Int)))]))), (2, (.ref (.bx 2) 0 [] (.agg [(.int .i64 0), (.sl .nl (Enc.shp (Int × Int)) 0 [])]))), (3, (.ref (.bx 3) 0 [] (.agg [(.int .i64 0), (.sl .nl (Enc.shp (Int × Int)) 0 [])])))] ⟨(keep_clear (s := s) (pk := [3]) h1 rfl (map_bx rfl (map_agg (maps_cons rfl (maps_cons (Enc.map_enc _ (a_1.2 : List (Int × Int))) maps_nil))))), (keep_clear (s := s) (pk := [3]) h2 rfl (map_bx rfl (map_agg (maps_cons rfl (maps_cons rfl maps_nil))))), rfl⟩ ?_
  rintro s ⟨h1, h2, h3⟩
  refine .nsq ?_
  refine .seq ?_
  refine run_reg ?_
  refine e_end ?_
  refine g_v1 (t := 1) (u := (.ref (.bx 1) 0 [] (.agg [(.int .i64 a_1.1), (Enc.enc (a_1.2 : List (Int × Int)))]))) (.ref (.bx 1) 0 [0] (.int .i64 a_1.1)) h1 rfl rfl ?_
  refine g_v1 (t := 4) (u := (.ref (.bx 1) 0 [0] (.int .i64 a_1.1))) (.int .i64 a_1.1) rfl rfl rfl ?_
  refine g_v1 (t := 3) (u := (.ref (.bx 3) 0 [] (.agg [(.int .i64 0), (.sl .nl (Enc.shp (Int × Int)) 0 [])]))) (.ref (.bx 3) 0 [0] (.int .i64 0)) h3 rfl rfl ?_
  refine g_store (.int .i64 a_1.1) (rd_of rfl rfl) (rd_of rfl rfl) (by refine ⟨by decide, by decide, rfl, rfl, rfl, ?_⟩; first | rfl | simp [V.toks, V.tokss, Enc.toks_enc]) ?_
  refine g_end ?_
  refine e_end ?_
  refine renew [(1, (.ref (.bx 1) 0 [] (.agg [(.int .i64 a_1.1), (Enc.enc (a_1.2 : List (Int × Int)))]))), (2, (.ref (.bx 2) 0 [] (.agg [(.int .i64 0), (.sl .nl (Enc.shp (Int × Int)) 0 [])]))), (3, (.ref (.bx 3) 0 [] (.agg [(.int .i64 a_1.1), (.sl .nl (Enc.shp (Int × Int)) 0 [])])))] ⟨(keep_mut h1 (mut_ref_ne rfl rfl (mut_agg (muts_cons rfl (muts_cons (Enc.mut_enc _ _ _ _ (a_1.2 : List (Int × Int))) rfl))))), (keep_mut h2 (mut_ref_ne rfl rfl (mut_agg (muts_cons rfl (muts_cons rfl rfl))))), (keep_mut h3 rfl)⟩ ?_
  rintro s ⟨h1, h2, h3⟩
  refine .nsq ?_
  refine .seq ?_
  refine run_reg ?_
  refine e_end ?_
  refine g_v1 (t := 1) (u := (.ref (.bx 1) 0 [] (.agg [(.int .i64 a_1.1), (Enc.enc (a_1.2 : List (Int × Int)))]))) (.ref (.bx 1) 0 [1] (Enc.enc (a_1.2 : List (Int × Int)))) h1 rfl rfl ?_
  refine g_v1 (t := 7) (u := (.ref (.bx 1) 0 [1] (Enc.enc (a_1.2 : List (Int × Int))))) (Enc.enc (a_1.2 : List (Int × Int))) rfl rfl rfl ?_
  obtain ⟨r_2, E_r_2, h⟩ := bind_some h
  refine g_call (m := 0) (al := true) (r := (Enc.enc (r_2 : (List (Int × Int))))) [Enc.enc (a_1.2 : (List (Int × Int)))] (ta_cons (v := (Enc.enc (a_1.2 : List (Int × Int)))) rfl rfl (Enc.erase_enc (a_1.2 : (List (Int × Int)))) ta_nil) (H.c32 _ _ E_r_2) H.g32 (hal_of (ht_cons (v := (Enc.enc (a_1.2 : List (Int × Int)))) rfl rfl rfl ht_nil)) rfl rfl rfl ?_
  refine g_v1 (t := 3) (u := (.ref (.bx 3) 0 [] (.agg [(.int .i64 a_1.1), (.sl .nl (Enc.shp (Int × Int)) 0 [])]))) (.ref (.bx 3) 0 [1] (.sl .nl (Enc.shp (Int × Int)) 0 [])) h3 rfl rfl ?_
  refine g_store (Enc.enc (r_2 : List (Int × Int))) (rd_of rfl rfl) (rd_of rfl rfl) (by refine ⟨by decide, by decide, rfl, rfl, rfl, ?_⟩; first | rfl | simp [V.toks, V.tokss, Enc.toks_enc]) ?_
  refine g_end ?_
  refine e_end ?_
  refine renew [(2, (.ref (.bx 2) 0 [] (.agg [(.int .i64 0), (.sl .nl (Enc.shp (Int × Int)) 0 [])]))), (3, (.ref (.bx 3) 0 [] (.agg [(.int .i64 a_1.1), (Enc.enc (r_2 : List (Int × Int)))])))] ⟨(keep_mut h2 (mut_ref_ne rfl rfl (mut_agg (muts_cons rfl (muts_cons rfl rfl))))), (keep_mut h3 rfl)⟩ ?_
  rintro s ⟨h2, h3⟩
  refine .nsq ?_
  refine .seq ?_
  refine run_reg ?_
  refine e_end ?_
  refine g_v1 (t := 3) (u := (.ref (.bx 3) 0 [] (.agg [(.int .i64 a_1.1), (Enc.enc (r_2 : List (Int × Int)))]))) (.agg [(.int .i64 a_1.1), (Enc.enc (r_2 : List (Int × Int)))]) h3 rfl rfl ?_
  refine g_store (.agg [(.int .i64 a_1.1), (Enc.enc (r_2 : List (Int × Int)))]) (rd_of h2 rfl) (rd_of rfl rfl) (by refine ⟨by decide, by decide, rfl, rfl, rfl, ?_⟩; first | rfl | simp [V.toks, V.tokss, Enc.toks_enc]) ?_
  refine g_end ?_
  refine e_end ?_
  refine renew [(2, (.ref (.bx 2) 0 [] (.agg [(.int .i64 a_1.1), (Enc.enc (r_2 : List (Int × Int)))])))] (keep_mut h2 rfl) ?_
  rintro s h2
  refine .nsq ?_
  refine .ret ?_
  have hr := Option.some.inj h
  subst hr
  exact rrA (res_cell h2 rfl) (fin_ret1 (fin_enc (x := ((a_1.1, r_2) : (Int × (List (Int × Int)))))))
end
def e11 (F : Nat) : Ent := ⟨11, dn1 (w_toGraph F) (fun (r : (Int × (List (Int × Int)))) => (Enc.enc (r : (Int × (List (Int × Int)))))), 0, true⟩
theorem o11 {D : Den} {σ : Sig} {F : Nat} (hF : Fits2 Try.prog D σ) (H : H11 D σ F) : (e11 F).Ok Try.prog := by
  refine ⟨fun args r h => ?_, ⟨Try.f11, Try.func11, rfl, rfl⟩⟩
  obtain ⟨x0, y, rfl, hy, rfl⟩ := dn1_open h
  exact contract_run hF (by kernel_rfl) Try.func11 rfl c11 (show 1 ≤ Try.f11.ntmps by decide) (t11 H x0 _ rfl hy)
/- loop.example/g01109/laws.toIntS -/
def A12_2 : AC := (AC.cond (O.t 11) AC.skip (AC.exit 0))
def A12_4 : AC := (AC.reg [] [(I.mk (some 12) none false (X.v (A.mov (O.t 4)))), (I.mk (some 13) none false (X.v (A.bin BinOp.add (O.t 12) (O.k (V.int IntKind.i64 (Int.ofNat 1)))))), (I.mk (some 4) none false (X.v (A.mov (O.t 13))))] [])
def A12_3 : AC := (AC.seq (AC.block 1 (AC.reg [] [(I.mk (some 14) none false (X.v (A.mov (O.t 3)))), (I.mk (some 15) none false (X.v (A.mov (O.t 4)))), (I.mk (some 16) none false (X.v (A.mov (O.t 0)))), (I.mk (some 17) none false (X.v (A.mov (O.t 4)))), (I.mk (some 18) none false (X.v (A.idx (O.t 16) (O.t 17) 1))), (I.mk (some 19) none false (X.v (A.load Sh.s (O.t 18)))), (I.mk (some 20) none false (X.v (A.idx (O.t 14) (O.t 15) 1))), (I.mk none none false (X.store Sh.s (O.t 20) (O.t 19)))] [])) A12_4)
def A12_1 : AC := (AC.seq (AC.seq (AC.reg [] [(I.mk (some 8) none false (X.v (A.mov (O.t 4)))), (I.mk (some 9) none false (X.v (A.mov (O.t 0)))), (I.mk (some 10) none false (X.v (A.len (O.t 9)))), (I.mk (some 11) none false (X.v (A.bin BinOp.lss (O.t 8) (O.t 10))))] []) A12_2) A12_3)
def A12_5 : AC := (AC.seq (AC.reg [] [(I.mk (some 21) none false (X.v (A.mov (O.t 3)))), (I.mk (some 2) none false (X.v (A.mov (O.t 21))))] [.home 3 2]) AC.ret)
def A12_8 : AC := (AC.block 0 (AC.loop A12_1))
def A12_7 : AC := (AC.seq (AC.seq (AC.reg [] [(I.mk (some 4) none false (X.v (A.mov (O.k (V.int IntKind.i64 (Int.ofNat 0))))))] []) A12_8) A12_5)
def A12_6 : AC := (AC.seq (AC.reg [.clr [7]] [(I.mk (some 5) none false (X.v (A.mov (O.t 0)))), (I.mk (some 6) none false (X.v (A.len (O.t 5)))), (I.mk (some 7) none false (X.mk (O.t 6) (V.int IntKind.i64 (Int.ofNat 0)))), (I.mk (some 3) none false (X.v (A.mov (O.t 7))))] [.home 7 3]) A12_7)
def A12 : AC := (AC.seq (AC.reg [] [(I.mk (some 2) none false (X.v (A.mov (O.k (V.sl Tok.nl Sh.s 0 [])))))] []) A12_6)
def an12 : List An := [{ id := 1, pre := [.clr [7]], ep := [.home 7 3] }, { id := 6, pre := [], ep := [.home 3 2] }]
theorem c12 : cC Try.prog Try.f12.ntmps an12 (Try.f12.body.getD .skip) = some A12 := by rfl
structure H12 (D : Den) (σ : Sig) (F : Nat) : Prop where
  mk ::
abbrev R12 (r : (List Int)) : (Nat → V) → Prop := RR Try.prog [.tmp 2] 0 true (Enc.enc (r : (List Int)))
section
variable {D : Den} {σ : Sig} {F : Nat} {r : (List Int)}
def w_toIntS_l1 (F : Nat) (a_1 : (List Int))  : Nat → (List Int) → Int → Option (List Int)
  | 0, _, _ => none
  | k + 1, out_5, i_6 =>
    bif decide (i_6 < (a_1.length : Int)) then
      (idx a_1 i_6).bind fun e_9 =>
      (idx out_5 i_6).bind fun e_10 =>
      (w_toIntS_l1 F a_1 k) (out_5.set i_6.toNat e_9) (w64 (i_6 + 1))
    else
      some out_5
theorem t_f12_l1 (H : H12 D σ F) (a_1 : (List Int))  : ∀ (k : Nat) (out_5 : (List Int)) (i_6 : Int) (s : Nat → V), Facts [(0, (Enc.enc (a_1 : List Int))), (2, (.sl .nl (Enc.shp Int) 0 [])), (3, (encO (.at 3 []) (.of (out_5 : List Int)))), (4, (.int .i64 i_6))] s → w_toIntS_l1 F a_1 k out_5 i_6 = some r → Run D σ (R12 r) (.run A12_1 [.lp A12_1, .bk 0, .sq A12_5]) s := by
  intro k
  induction k with
  | zero => intro out_5 i_6 s _ h; exact nomatch (h : (none : Option _) = some r)
  | succ k ih =>
    intro out_5 i_6 s hs h
    rw [w_toIntS_l1] at h
    obtain ⟨h0, h2, h3, h4⟩ := hs
    refine .seq ?_
    refine .seq ?_
    refine run_reg ?_
    refine e_end ?_
    refine g_v1 (t := 4) (u := (.int .i64 i_6)) (.int .i64 i_6) h4 rfl rfl ?_
    refine g_v1 (t := 0) (u := (Enc.enc (a_1 : List Int))) (Enc.enc (a_1 : List Int)) h0 rfl rfl ?_
    refine g_v (.int .i64 (a_1.length : Int)) (ev_len (xs := a_1) rfl) ?_
    refine g_v2 (t1 := 8) (t2 := 10) (u1 := (.int .i64 i_6)) (u2 := (.int .i64 (a_1.length : Int))) (.bool (decide (i_6 < (a_1.length : Int)))) rfl rfl rfl rfl ?_
    refine g_end ?_
    refine e_end ?_
    refine renew [(0, (Enc.enc (a_1 : List Int))), (2, (.sl .nl (Enc.shp Int) 0 [])), (3, (encO (.at 3 []) (.of (out_5 : List Int)))), (4, (.int .i64 i_6)), (11, (.bool (decide (i_6 < (a_1.length : Int)))))] ⟨h0, h2, h3, h4, rfl⟩ ?_
    rintro s ⟨h0, h2, h3, h4, h11⟩
    refine .nsq ?_
    refine run_cond (t := decide (i_6 < (a_1.length : Int))) h11 h (fun h => ?_) (fun h => ?_)
    · refine .skip ?_
      refine .nsq ?_
      refine .seq ?_
      refine .block ?_
      refine run_reg ?_
      refine e_end ?_
      refine g_v1 (t := 3) (u := (encO (.at 3 []) (.of (out_5 : List Int)))) (encO (.at 3 []) (.of (out_5 : List Int))) h3 rfl rfl ?_
      refine g_v1 (t := 4) (u := (.int .i64 i_6)) (.int .i64 i_6) h4 rfl rfl ?_
      refine g_v1 (t := 0) (u := (Enc.enc (a_1 : List Int))) (Enc.enc (a_1 : List Int)) h0 rfl rfl ?_
      refine g_v1 (t := 4) (u := (.int .i64 i_6)) (.int .i64 i_6) h4 rfl rfl ?_
      obtain ⟨e_9, E_e_9, h⟩ := bind_some h
      refine g_v (.ref .sh 0 [] (.int .i64 e_9)) (ev_idx (t := .sh) (lo := 0) (xs := a_1) rfl rfl E_e_9 rfl rfl) ?_
      refine g_v1 (t := 18) (u := (.ref .sh 0 [] (.int .i64 e_9))) (.int .i64 e_9) rfl rfl rfl ?_
      obtain ⟨e_10, E_e_10, h⟩ := bind_some h
      refine g_v (.ref (.at 3 []) i_6.toNat [] (.int .i64 e_10)) (ev_idxO (o := (.of out_5)) rfl rfl E_e_10 rfl) ?_
      refine g_store (.int .i64 e_9) (rd_of rfl rfl) (rd_of rfl rfl) (by refine ⟨by decide, by decide, rfl, rfl, rfl, ?_⟩; first | rfl | simp [V.toks, V.tokss, Enc.toks_enc]) ?_
      refine g_end ?_
      refine e_end ?_
      refine renew [(0, (Enc.enc (a_1 : List Int))), (2, (.sl .nl (Enc.shp Int) 0 [])), (3, (encO (.at 3 []) (.of (out_5.set i_6.toNat e_9 : List Int)))), (4, (.int .i64 i_6))] ⟨(keep_mut h0 (Enc.mut_enc _ _ _ _ (a_1 : List Int))), (keep_mut h2 rfl), (keep_mut h3 mut_own), (keep_mut h4 rfl)⟩ ?_
      rintro s ⟨h0, h2, h3, h4⟩
      refine .nbk ?_
      refine .nsq ?_
      refine run_reg ?_
      refine e_end ?_
      refine g_v1 (t := 4) (u := (.int .i64 i_6)) (.int .i64 i_6) h4 rfl rfl ?_
      refine g_v1 (t := 12) (u := (.int .i64 i_6)) (.int .i64 (w64 (i_6 + 1))) rfl rfl rfl ?_
      refine g_v1 (t := 13) (u := (.int .i64 (w64 (i_6 + 1)))) (.int .i64 (w64 (i_6 + 1))) rfl rfl rfl ?_
      refine g_end ?_
      refine e_end ?_
      refine renew [(0, (Enc.enc (a_1 : List Int))), (2, (.sl .nl (Enc.shp Int) 0 [])), (3, (encO (.at 3 []) (.of (out_5.set i_6.toNat e_9 : List Int)))), (4, (.int .i64 (w64 (i_6 + 1))))] ⟨h0, h2, h3, rfl⟩ ?_
      rintro s ⟨h0, h2, h3, h4⟩
      refine .nlp ?_
      exact ih (out_5.set i_6.toNat e_9) (w64 (i_6 + 1)) _ ⟨h0, h2, h3, h4⟩ h
    · refine .exit ?_
      refine .esq ?_
      refine .elp ?_
      refine .ebk ?_
      refine .nsq ?_
      refine .seq ?_
      refine run_reg ?_
      refine e_end ?_
      refine g_v1 (t := 3) (u := (encO (.at 3 []) (.of (out_5 : List Int)))) (encO (.at 3 []) (.of (out_5 : List Int))) h3 rfl rfl ?_
      refine g_v1 (t := 21) (u := (encO (.at 3 []) (.of (out_5 : List Int)))) (encO (.at 3 []) (.of (out_5 : List Int))) rfl rfl rfl ?_
      refine g_end ?_
      refine e_home (r := 3) (x := 2) (v := (encO (.at 3 []) (.of (out_5 : List Int)))) (by exact rfl) rfl (fun s_3 hg_3 => ?_)
      refine e_end ?_
      refine renew [(2, (encO (.at 2 []) (.of (out_5 : List Int))))] (hg_3 2 (encO (.at 3 []) (.of (out_5 : List Int))) (encO (.at 2 []) (.of (out_5 : List Int))) rfl (map_encO (r := 3) (p := []) rfl rfl)) ?_
      rintro s h2
      refine .nsq ?_
      refine .ret ?_
      have hr := Option.some.inj h
      subst hr
      exact rrA (res_tmp h2) (fin_ret1 (fin_own (o := .of out_5)))
def w_toIntS (F : Nat) (a_1 : (List Int)) : Option (List Int) :=
  (mkN (a_1.length : Int) 0).bind fun mk_2 =>
  w_toIntS_l1 F a_1 F mk_2 0
theorem t12 (H : H12 D σ F) (a_1 : (List Int)) (s : Nat → V) (hs : Facts [(0, (Enc.enc (a_1 : List Int)))] s) (h : w_toIntS F a_1 = some r) : Run D σ (R12 r) (.run A12 []) s := by
  unfold w_toIntS at h
  have h0 := hs
  refine .seq ?_
  refine run_reg ?_
  refine e_end ?_
  refine g_v0 (.sl .nl (Enc.shp Int) 0 []) rfl rfl ?_
  refine g_end ?_
  refine e_end ?_
  refine renew [(0, (Enc.enc (a_1 : List Int))), (2, (.sl .nl (Enc.shp Int) 0 []))] ⟨h0, rfl⟩ ?_
  rintro s ⟨h0, h2⟩
  refine .nsq ?_
  refine .seq ?_
  refine run_reg ?_
  refine e_clr ?_
  refine e_end ?_
  refine g_v1 (t := 0) (u := (Enc.enc (a_1 : List Int))) (Enc.enc (a_1 : List Int)) (keep_clear (s := s) (pk := [7]) h0 rfl (Enc.map_enc _ (a_1 : List Int))) rfl rfl ?_
  refine g_v (.int .i64 (a_1.length : Int)) (ev_len (xs := a_1) rfl) ?_
  obtain ⟨mk_2, E_mk_2, h⟩ := bind_some h
  refine g_mk (0 : Int) rfl rfl (gone_clear (s := s) (pk := [7]) (t := 7) rfl) E_mk_2 ?_
  refine g_v1 (t := 7) (u := (encO (.at 7 []) (.of (mk_2 : List Int)))) (encO (.at 7 []) (.of (mk_2 : List Int))) rfl rfl rfl ?_
  refine g_end ?_
  refine e_home (r := 7) (x := 3) (v := (encO (.at 7 []) (.of (mk_2 : List Int)))) (by exact rfl) rfl (fun s_2 hg_2 => ?_)
  refine e_end ?_
  refine renew [(0, (Enc.enc (a_1 : List Int))), (2, (.sl .nl (Enc.shp Int) 0 [])), (3, (encO (.at 3 []) (.of (mk_2 : List Int))))] ⟨(hg_2 0 (Enc.enc (a_1 : List Int)) (Enc.enc (a_1 : List Int)) (keep_clear (s := s) (pk := [7]) h0 rfl (Enc.map_enc _ (a_1 : List Int))) (Enc.map_enc _ (a_1 : List Int))), (hg_2 2 (.sl .nl (Enc.shp Int) 0 []) (.sl .nl (Enc.shp Int) 0 []) (keep_clear (s := s) (pk := [7]) h2 rfl rfl) rfl), (hg_2 3 (encO (.at 7 []) (.of (mk_2 : List Int))) (encO (.at 3 []) (.of (mk_2 : List Int))) rfl (map_encO (r := 7) (p := []) rfl rfl))⟩ ?_
  rintro s ⟨h0, h2, h3⟩
  refine .nsq ?_
  refine .seq ?_
  refine .seq ?_
  refine run_reg ?_
  refine e_end ?_
  refine g_v0 (.int .i64 0) rfl rfl ?_
  refine g_end ?_
  refine e_end ?_
  refine renew [(0, (Enc.enc (a_1 : List Int))), (2, (.sl .nl (Enc.shp Int) 0 [])), (3, (encO (.at 3 []) (.of (mk_2 : List Int)))), (4, (.int .i64 0))] ⟨h0, h2, h3, rfl⟩ ?_
  rintro s ⟨h0, h2, h3, h4⟩
  refine .nsq ?_
  refine .block ?_
  refine .loop ?_
  exact t_f12_l1 H a_1 F mk_2 0 _ ⟨h0, h2, h3, h4⟩ h
end
def e12 (F : Nat) : Ent := ⟨12, dn1 (w_toIntS F) (fun (r : (List Int)) => (Enc.enc (r : (List Int)))), 0, true⟩
theorem o12 {D : Den} {σ : Sig} {F : Nat} (hF : Fits2 Try.prog D σ) (H : H12 D σ F) : (e12 F).Ok Try.prog := by
  refine ⟨fun args r h => ?_, ⟨Try.f12, Try.func12, rfl, rfl⟩⟩
  obtain ⟨x0, y, rfl, hy, rfl⟩ := dn1_open h
  exact contract_run hF (by kernel_rfl) Try.func12 rfl c12 (show 1 ≤ Try.f12.ntmps by decide) (t12 H x0 _ rfl hy)
/- loop.example/g01109/spec.l1In -/
def A56_1 : AC := (AC.seq (AC.reg [] [(I.mk (some 7) none false (X.v (A.mov (O.t 0)))), (I.mk (some 8) none false (X.v (A.mov (O.t 1)))), (I.mk (some 9) none false (X.v (A.bin BinOp.geq (O.t 7) (O.t 8)))), (I.mk (some 10) none false (X.v (A.mov (O.t 9)))), (I.mk (some 11) (some (10, true)) false (X.v (A.mov (O.t 0)))), (I.mk (some 12) (some (10, true)) false (X.v (A.mov (O.t 2)))), (I.mk (some 13) (some (10, true)) false (X.v (A.bin BinOp.leq (O.t 11) (O.t 12)))), (I.mk (some 14) none false (X.v (A.pick (O.t 10) (O.t 13) (O.k (V.bool false))))), (I.mk (some 6) none false (X.v (A.mov (O.t 14))))] []) AC.ret)
def A56 : AC := (AC.seq (AC.reg [] [(I.mk (some 6) none false (X.v (A.mov (O.k (V.bool false)))))] []) A56_1)
def an56 : List An := []
theorem c56 : cC Try.prog Try.f56.ntmps an56 (Try.f56.body.getD .skip) = some A56 := by rfl
structure H56 (D : Den) (σ : Sig) (F : Nat) : Prop where
  mk ::
abbrev R56 (r : Bool) : (Nat → V) → Prop := RR Try.prog [.tmp 6] 0 false (Enc.enc (r : Bool))
section
variable {D : Den} {σ : Sig} {F : Nat} {r : Bool}
def s_l1In (F : Nat) (x_1 : Int) (a_2 : Int) (b_3 : Int) : Option Bool :=
  bif decide (x_1 ≥ a_2) then
    some (decide (x_1 ≤ b_3))
  else
    some false
theorem t56 (H : H56 D σ F) (x_1 : Int) (a_2 : Int) (b_3 : Int) (s : Nat → V) (hs : Facts [(0, (.int .i64 x_1)), (1, (.int .i64 a_2)), (2, (.int .i64 b_3))] s) (h : s_l1In F x_1 a_2 b_3 = some r) : Run D σ (R56 r) (.run A56 []) s := by
  unfold s_l1In at h
  obtain ⟨h0, h1, h2⟩ := hs
  refine .seq ?_
  refine run_reg ?_
  refine e_end ?_
  refine g_v0 (.bool false) rfl rfl ?_
  refine g_end ?_
  refine e_end ?_
  refine renew [(0, (.int .i64 x_1)), (1, (.int .i64 a_2)), (2, (.int .i64 b_3)), (6, (.bool false))] ⟨h0, h1, h2, rfl⟩ ?_
  rintro s ⟨h0, h1, h2, h6⟩
  refine .nsq ?_
  refine .seq ?_
  refine run_reg ?_
  refine e_end ?_
  refine g_v1 (t := 0) (u := (.int .i64 x_1)) (.int .i64 x_1) h0 rfl rfl ?_
  refine g_v1 (t := 1) (u := (.int .i64 a_2)) (.int .i64 a_2) h1 rfl rfl ?_
  refine g_v2 (t1 := 7) (t2 := 8) (u1 := (.int .i64 x_1)) (u2 := (.int .i64 a_2)) (.bool (decide (x_1 ≥ a_2))) rfl rfl rfl rfl ?_
  refine g_v1 (t := 9) (u := (.bool (decide (x_1 ≥ a_2)))) (.bool (decide (x_1 ≥ a_2))) rfl rfl rfl ?_
  refine split_on (c := decide (x_1 ≥ a_2)) h (fun hg4 h => ?_) (fun hg4 h => ?_)
  · refine g_yes (Eq.trans (b := .bool (decide (x_1 ≥ a_2))) rfl (congrArg V.bool hg4)) (g_v1 (t := 0) (u := (.int .i64 x_1)) (.int .i64 x_1) h0 rfl rfl ?_)
    refine g_yes (Eq.trans (b := .bool (decide (x_1 ≥ a_2))) rfl (congrArg V.bool hg4)) (g_v1 (t := 2) (u := (.int .i64 b_3)) (.int .i64 b_3) h2 rfl rfl ?_)
    refine g_yes (Eq.trans (b := .bool (decide (x_1 ≥ a_2))) rfl (congrArg V.bool hg4)) (g_v2 (t1 := 11) (t2 := 12) (u1 := (.int .i64 x_1)) (u2 := (.int .i64 b_3)) (.bool (decide (x_1 ≤ b_3))) rfl rfl rfl rfl ?_)
    refine g_v2 (t1 := 10) (t2 := 13) (u1 := (.bool true)) (u2 := (.bool (decide (x_1 ≤ b_3)))) (.bool (decide (x_1 ≤ b_3))) (Eq.trans (b := .bool (decide (x_1 ≥ a_2))) rfl (congrArg V.bool hg4)) rfl rfl rfl ?_
    refine g_v1 (t := 14) (u := (.bool (decide (x_1 ≤ b_3)))) (.bool (decide (x_1 ≤ b_3))) rfl rfl rfl ?_
    refine g_end ?_
    refine e_end ?_
    refine renew [(6, (.bool (decide (x_1 ≤ b_3))))] rfl ?_
    rintro s h6
    refine .nsq ?_
    refine .ret ?_
    have hr := Option.some.inj h
    subst hr
    exact rrA (res_tmp h6) rfl
  · refine g_no (Eq.trans (b := .bool (decide (x_1 ≥ a_2))) rfl (congrArg V.bool hg4)) ?_
    refine g_no (Eq.trans (b := .bool (decide (x_1 ≥ a_2))) rfl (congrArg V.bool hg4)) ?_
    refine g_no (Eq.trans (b := .bool (decide (x_1 ≥ a_2))) rfl (congrArg V.bool hg4)) ?_
    refine g_v2 (t1 := 10) (t2 := 13) (u1 := (.bool false)) (u2 := (.tup [])) (.bool false) (Eq.trans (b := .bool (decide (x_1 ≥ a_2))) rfl (congrArg V.bool hg4)) rfl rfl rfl ?_
    refine g_v1 (t := 14) (u := (.bool false)) (.bool false) rfl rfl rfl ?_
    refine g_end ?_
    refine e_end ?_
    refine renew [(6, (.bool false))] rfl ?_
    rintro s h6
    refine .nsq ?_
    refine .ret ?_
    have hr := Option.some.inj h
    subst hr
    exact rrA (res_tmp h6) rfl
end
def e56 (F : Nat) : Ent := ⟨56, dn3 (s_l1In F) (fun (r : Bool) => (Enc.enc (r : Bool))), 0, false⟩
theorem o56 {D : Den} {σ : Sig} {F : Nat} (hF : Fits2 Try.prog D σ) (H : H56 D σ F) : (e56 F).Ok Try.prog := by
  refine ⟨fun args r h => ?_, ⟨Try.f56, Try.func56, rfl, rfl⟩⟩
  obtain ⟨x0, x1, x2, y, rfl, hy, rfl⟩ := dn3_open h
  exact contract_run hF (by kernel_rfl) Try.func56 rfl c56 (show 3 ≤ Try.f56.ntmps by decide) (t56 H x0 x1 x2 _ ⟨rfl, rfl, rfl⟩ hy)
/- loop.example/g01109/spec.l2Before -/
def A57_1 : AC := (AC.seq (AC.reg [] [(I.mk (some 5) none false (X.v (A.idxA (O.t 2) (O.k (V.int IntKind.i64 (Int.ofNat 0))) 2 1))), (I.mk (some 6) none false (X.v (A.load Sh.s (O.t 5)))), (I.mk (some 7) none false (X.v (A.idxA (O.t 3) (O.k (V.int IntKind.i64 (Int.ofNat 0))) 2 1))), (I.mk (some 8) none false (X.v (A.load Sh.s (O.t 7)))), (I.mk (some 9) none false (X.v (A.bin BinOp.lss (O.t 6) (O.t 8)))), (I.mk (some 10) none false (X.v (A.mov (O.t 9)))), (I.mk (some 11) (some (10, false)) false (X.v (A.idxA (O.t 2) (O.k (V.int IntKind.i64 (Int.ofNat 0))) 2 1))), (I.mk (some 12) (some (10, false)) false (X.v (A.load Sh.s (O.t 11)))), (I.mk (some 13) (some (10, false)) false (X.v (A.idxA (O.t 3) (O.k (V.int IntKind.i64 (Int.ofNat 0))) 2 1))), (I.mk (some 14) (some (10, false)) false (X.v (A.load Sh.s (O.t 13)))), (I.mk (some 15) (some (10, false)) false (X.v (A.bin BinOp.eql (O.t 12) (O.t 14)))), (I.mk (some 16) (some (10, false)) false (X.v (A.mov (O.t 15)))), (I.mk (some 17) (some (16, true)) false (X.v (A.idxA (O.t 2) (O.k (V.int IntKind.i64 (Int.ofNat 1))) 2 1))), (I.mk (some 18) (some (16, true)) false (X.v (A.load Sh.s (O.t 17)))), (I.mk (some 19) (some (16, true)) false (X.v (A.idxA (O.t 3) (O.k (V.int IntKind.i64 (Int.ofNat 1))) 2 1))), (I.mk (some 20) (some (16, true)) false (X.v (A.load Sh.s (O.t 19)))), (I.mk (some 21) (some (16, true)) false (X.v (A.bin BinOp.lss (O.t 18) (O.t 20)))), (I.mk (some 22) (some (10, false)) false (X.v (A.pick (O.t 16) (O.t 21) (O.k (V.bool false))))), (I.mk (some 23) none false (X.v (A.pick (O.t 10) (O.k (V.bool true)) (O.t 22)))), (I.mk (some 4) none false (X.v (A.mov (O.t 23))))] []) AC.ret)
def A57 : AC := (AC.seq (AC.reg [.clr [2, 3]] [(I.mk (some 2) none false (X.box (O.t 0))), (I.mk (some 3) none false (X.box (O.t 1))), (I.mk (some 4) none false (X.v (A.mov (O.k (V.bool false)))))] []) A57_1)
def an57 : List An := [{ id := 0, pre := [.clr [2, 3]], ep := [] }]
theorem c57 : cC Try.prog Try.f57.ntmps an57 (Try.f57.body.getD .skip) = some A57 := by rfl
structure H57 (D : Den) (σ : Sig) (F : Nat) : Prop where
  mk ::
abbrev R57 (r : Bool) : (Nat → V) → Prop := RR Try.prog [.tmp 4] 0 false (Enc.enc (r : Bool))
section
variable {D : Den} {σ : Sig} {F : Nat} {r : Bool}
def s_l2Before (F : Nat) (a_1 : (Int × Int)) (b_2 : (Int × Int)) : Option Bool :=
  bif decide (a_1.1 < b_2.1) then
    some true
  else
    bif (a_1.1 == b_2.1) then
      some (decide (a_1.2 < b_2.2))
    else
      some false
theorem t57 (H : H57 D σ F) (a_1 : (Int × Int)) (b_2 : (Int × Int)) (s : Nat → V) (hs : Facts [(0, (.agg [(.int .i64 a_1.1), (.int .i64 a_1.2)])), (1, (.agg [(.int .i64 b_2.1), (.int .i64 b_2.2)]))] s) (h : s_l2Before F a_1 b_2 = some r) : Run D σ (R57 r) (.run A57 []) s := by
  unfold s_l2Before at h
  obtain ⟨h0, h1⟩ := hs
  refine .seq ?_
  refine run_reg ?_
  refine e_clr ?_
  refine e_end ?_
  refine g_box (.agg [(.int .i64 a_1.1), (.int .i64 a_1.2)]) (rd_of (keep_clear (s := s) (pk := [2, 3]) h0 rfl (map_agg (maps_cons rfl (maps_cons rfl maps_nil)))) rfl) (gone_clear (s := s) (pk := [2, 3]) (t := 2) rfl) rfl ?_
  refine g_box (.agg [(.int .i64 b_2.1), (.int .i64 b_2.2)]) (rd_of (keep_clear (s := s) (pk := [2, 3]) h1 rfl (map_agg (maps_cons rfl (maps_cons rfl maps_nil)))) rfl) (gone_clear (s := s) (pk := [2, 3]) (t := 3) rfl) rfl ?_
  refine g_v0 (.bool false) rfl rfl ?_
  refine g_end ?_
  refine e_end ?_
  refine renew [(2, (.ref (.bx 2) 0 [] (.agg [(.int .i64 a_1.1), (.int .i64 a_1.2)]))), (3, (.ref (.bx 3) 0 [] (.agg [(.int .i64 b_2.1), (.int .i64 b_2.2)]))), (4, (.bool false))] ⟨rfl, rfl, rfl⟩ ?_
  rintro s ⟨h2, h3, h4⟩
  refine .nsq ?_
  refine .seq ?_
  refine run_reg ?_
  refine e_end ?_
  refine g_v1 (t := 2) (u := (.ref (.bx 2) 0 [] (.agg [(.int .i64 a_1.1), (.int .i64 a_1.2)]))) (.ref (.bx 2) 0 [0] (.int .i64 a_1.1)) h2 rfl rfl ?_
  refine g_v1 (t := 5) (u := (.ref (.bx 2) 0 [0] (.int .i64 a_1.1))) (.int .i64 a_1.1) rfl rfl rfl ?_
  refine g_v1 (t := 3) (u := (.ref (.bx 3) 0 [] (.agg [(.int .i64 b_2.1), (.int .i64 b_2.2)]))) (.ref (.bx 3) 0 [0] (.int .i64 b_2.1)) h3 rfl rfl ?_
  refine g_v1 (t := 7) (u := (.ref (.bx 3) 0 [0] (.int .i64 b_2.1))) (.int .i64 b_2.1) rfl rfl rfl ?_
  refine g_v2 (t1 := 6) (t2 := 8) (u1 := (.int .i64 a_1.1)) (u2 := (.int .i64 b_2.1)) (.bool (decide (a_1.1 < b_2.1))) rfl rfl rfl rfl ?_
  refine g_v1 (t := 9) (u := (.bool (decide (a_1.1 < b_2.1)))) (.bool (decide (a_1.1 < b_2.1))) rfl rfl rfl ?_
  refine split_on (c := decide (a_1.1 < b_2.1)) h (fun hg6 h => ?_) (fun hg6 h => ?_)
  · refine g_no (Eq.trans (b := .bool (decide (a_1.1 < b_2.1))) rfl (congrArg V.bool hg6)) ?_
    refine g_no (Eq.trans (b := .bool (decide (a_1.1 < b_2.1))) rfl (congrArg V.bool hg6)) ?_
    refine g_no (Eq.trans (b := .bool (decide (a_1.1 < b_2.1))) rfl (congrArg V.bool hg6)) ?_
    refine g_no (Eq.trans (b := .bool (decide (a_1.1 < b_2.1))) rfl (congrArg V.bool hg6)) ?_
    refine g_no (Eq.trans (b := .bool (decide (a_1.1 < b_2.1))) rfl (congrArg V.bool hg6)) ?_
    refine g_no (Eq.trans (b := .bool (decide (a_1.1 < b_2.1))) rfl (congrArg V.bool hg6)) ?_
    refine g_skip rfl ?_
    refine g_skip rfl ?_
    refine g_skip rfl ?_
    refine g_skip rfl ?_
    refine g_skip rfl ?_
    refine g_no (Eq.trans (b := .bool (decide (a_1.1 < b_2.1))) rfl (congrArg V.bool hg6)) ?_
    refine g_v2 (t1 := 10) (t2 := 22) (u1 := (.bool true)) (u2 := (.tup [])) (.bool true) (Eq.trans (b := .bool (decide (a_1.1 < b_2.1))) rfl (congrArg V.bool hg6)) rfl rfl rfl ?_
    refine g_v1 (t := 23) (u := (.bool true)) (.bool true) rfl rfl rfl ?_
    refine g_end ?_
    refine e_end ?_
    refine renew [(4, (.bool true))] rfl ?_
    rintro s h4
    refine .nsq ?_
    refine .ret ?_
    have hr := Option.some.inj h
    subst hr
    exact rrA (res_tmp h4) rfl
  · refine g_yes (Eq.trans (b := .bool (decide (a_1.1 < b_2.1))) rfl (congrArg V.bool hg6)) (g_v1 (t := 2) (u := (.ref (.bx 2) 0 [] (.agg [(.int .i64 a_1.1), (.int .i64 a_1.2)]))) (.ref (.bx 2) 0 [0] (.int .i64 a_1.1)) h2 rfl rfl ?_)
    refine g_yes (Eq.trans (b := .bool (decide (a_1.1 < b_2.1))) rfl (congrArg V.bool hg6)) (g_v1 (t := 11) (u := (.ref (.bx 2) 0 [0] (.int .i64 a_1.1))) (.int .i64 a_1.1) rfl rfl rfl ?_)
    refine g_yes (Eq.trans (b := .bool (decide (a_1.1 < b_2.1))) rfl (congrArg V.bool hg6)) (g_v1 (t := 3) (u := (.ref (.bx 3) 0 [] (.agg [(.int .i64 b_2.1), (.int .i64 b_2.2)]))) (.ref (.bx 3) 0 [0] (.int .i64 b_2.1)) h3 rfl rfl ?_)
    refine g_yes (Eq.trans (b := .bool (decide (a_1.1 < b_2.1))) rfl (congrArg V.bool hg6)) (g_v1 (t := 13) (u := (.ref (.bx 3) 0 [0] (.int .i64 b_2.1))) (.int .i64 b_2.1) rfl rfl rfl ?_)
    refine g_yes (Eq.trans (b := .bool (decide (a_1.1 < b_2.1))) rfl (congrArg V.bool hg6)) (g_v2 (t1 := 12) (t2 := 14) (u1 := (.int .i64 a_1.1)) (u2 := (.int .i64 b_2.1)) (.bool (a_1.1 == b_2.1)) rfl rfl rfl rfl ?_)
    refine g_yes (Eq.trans (b := .bool (decide (a_1.1 < b_2.1))) rfl (congrArg V.bool hg6)) (g_v1 (t := 15) (u := (.bool (a_1.1 == b_2.1))) (.bool (a_1.1 == b_2.1)) rfl rfl rfl ?_)
    refine split_on (c := (a_1.1 == b_2.1)) h (fun hg12 h => ?_) (fun hg12 h => ?_)
    · refine g_yes (Eq.trans (b := .bool (a_1.1 == b_2.1)) rfl (congrArg V.bool hg12)) (g_v1 (t := 2) (u := (.ref (.bx 2) 0 [] (.agg [(.int .i64 a_1.1), (.int .i64 a_1.2)]))) (.ref (.bx 2) 0 [1] (.int .i64 a_1.2)) h2 rfl rfl ?_)
      refine g_yes (Eq.trans (b := .bool (a_1.1 == b_2.1)) rfl (congrArg V.bool hg12)) (g_v1 (t := 17) (u := (.ref (.bx 2) 0 [1] (.int .i64 a_1.2))) (.int .i64 a_1.2) rfl rfl rfl ?_)
      refine g_yes (Eq.trans (b := .bool (a_1.1 == b_2.1)) rfl (congrArg V.bool hg12)) (g_v1 (t := 3) (u := (.ref (.bx 3) 0 [] (.agg [(.int .i64 b_2.1), (.int .i64 b_2.2)]))) (.ref (.bx 3) 0 [1] (.int .i64 b_2.2)) h3 rfl rfl ?_)
      refine g_yes (Eq.trans (b := .bool (a_1.1 == b_2.1)) rfl (congrArg V.bool hg12)) (g_v1 (t := 19) (u := (.ref (.bx 3) 0 [1] (.int .i64 b_2.2))) (.int .i64 b_2.2) rfl rfl rfl ?_)
      refine g_yes (Eq.trans (b := .bool (a_1.1 == b_2.1)) rfl (congrArg V.bool hg12)) (g_v2 (t1 := 18) (t2 := 20) (u1 := (.int .i64 a_1.2)) (u2 := (.int .i64 b_2.2)) (.bool (decide (a_1.2 < b_2.2))) rfl rfl rfl rfl ?_)
      refine g_yes (Eq.trans (b := .bool (decide (a_1.1 < b_2.1))) rfl (congrArg V.bool hg6)) (g_v2 (t1 := 16) (t2 := 21) (u1 := (.bool true)) (u2 := (.bool (decide (a_1.2 < b_2.2)))) (.bool (decide (a_1.2 < b_2.2))) (Eq.trans (b := .bool (a_1.1 == b_2.1)) rfl (congrArg V.bool hg12)) rfl rfl rfl ?_)
      refine g_v2 (t1 := 10) (t2 := 22) (u1 := (.bool false)) (u2 := (.bool (decide (a_1.2 < b_2.2)))) (.bool (decide (a_1.2 < b_2.2))) (Eq.trans (b := .bool (decide (a_1.1 < b_2.1))) rfl (congrArg V.bool hg6)) rfl rfl rfl ?_
      refine g_v1 (t := 23) (u := (.bool (decide (a_1.2 < b_2.2)))) (.bool (decide (a_1.2 < b_2.2))) rfl rfl rfl ?_
      refine g_end ?_
      refine e_end ?_
      refine renew [(4, (.bool (decide (a_1.2 < b_2.2))))] rfl ?_
      rintro s h4
      refine .nsq ?_
      refine .ret ?_
      have hr := Option.some.inj h
      subst hr
      exact rrA (res_tmp h4) rfl
    · refine g_no (Eq.trans (b := .bool (a_1.1 == b_2.1)) rfl (congrArg V.bool hg12)) ?_
      refine g_no (Eq.trans (b := .bool (a_1.1 == b_2.1)) rfl (congrArg V.bool hg12)) ?_
      refine g_no (Eq.trans (b := .bool (a_1.1 == b_2.1)) rfl (congrArg V.bool hg12)) ?_
      refine g_no (Eq.trans (b := .bool (a_1.1 == b_2.1)) rfl (congrArg V.bool hg12)) ?_
      refine g_no (Eq.trans (b := .bool (a_1.1 == b_2.1)) rfl (congrArg V.bool hg12)) ?_
      refine g_yes (Eq.trans (b := .bool (decide (a_1.1 < b_2.1))) rfl (congrArg V.bool hg6)) (g_v2 (t1 := 16) (t2 := 21) (u1 := (.bool false)) (u2 := (.tup [])) (.bool false) (Eq.trans (b := .bool (a_1.1 == b_2.1)) rfl (congrArg V.bool hg12)) rfl rfl rfl ?_)
      refine g_v2 (t1 := 10) (t2 := 22) (u1 := (.bool false)) (u2 := (.bool false)) (.bool false) (Eq.trans (b := .bool (decide (a_1.1 < b_2.1))) rfl (congrArg V.bool hg6)) rfl rfl rfl ?_
      refine g_v1 (t := 23) (u := (.bool false)) (.bool false) rfl rfl rfl ?_
      refine g_end ?_
      refine e_end ?_
      refine renew [(4, (.bool false))] rfl ?_
      rintro s h4
      refine .nsq ?_
      refine .ret ?_
      have hr := Option.some.inj h
      subst hr
      exact rrA (res_tmp h4) rfl
end
def e57 (F : Nat) : Ent := ⟨57, dn2 (s_l2Before F) (fun (r : Bool) => (Enc.enc (r : Bool))), 0, false⟩
theorem o57 {D : Den} {σ : Sig} {F : Nat} (hF : Fits2 Try.prog D σ) (H : H57 D σ F) : (e57 F).Ok Try.prog := by
  refine ⟨fun args r h => ?_, ⟨Try.f57, Try.func57, rfl, rfl⟩⟩
  obtain ⟨x0, x1, y, rfl, hy, rfl⟩ := dn2_open h
  exact contract_run hF (by kernel_rfl) Try.func57 rfl c57 (show 2 ≤ Try.f57.ntmps by decide) (t57 H x0 x1 _ ⟨rfl, rfl⟩ hy)
/- loop.example/g01109/spec.l2Good -/
def A30_2 : AC := (AC.cond (O.t 9) AC.skip (AC.exit 0))
def A30_5 : AC := (AC.cond (O.t 54) (AC.seq (AC.reg [] [(I.mk (some 2) none false (X.v (A.mov (O.k (V.bool false)))))] []) AC.ret) AC.skip)
def A30_4 : AC := (AC.seq (AC.reg [] [(I.mk (some 17) none false (X.v (A.idxA (O.t 4) (O.k (V.int IntKind.i64 (Int.ofNat 0))) 2 1))), (I.mk (some 18) none false (X.v (A.load Sh.s (O.t 17)))), (I.mk (some 19) none false (X.v (A.fld (O.t 1) 0 0))), (I.mk (some 20) none false (X.v (A.load Sh.s (O.t 19)))), (I.mk (some 21) none false (X.v (A.bin BinOp.sub (O.t 20) (O.k (V.int IntKind.i64 (Int.ofNat 1)))))), (I.mk (some 22) none false (X.call (O.k (V.fn 56 [] [])) [(O.t 18), (O.k (V.int IntKind.i64 (Int.ofNat 0))), (O.t 21)])), (I.mk (some 23) none false (X.v (A.un UnOp.not (O.t 22)))), (I.mk (some 24) none false (X.v (A.mov (O.t 23)))), (I.mk (some 25) (some (24, false)) false (X.v (A.idxA (O.t 4) (O.k (V.int IntKind.i64 (Int.ofNat 1))) 2 1))), (I.mk (some 26) (some (24, false)) false (X.v (A.load Sh.s (O.t 25)))), (I.mk (some 27) (some (24, false)) false (X.v (A.fld (O.t 1) 0 0))), (I.mk (some 28) (some (24, false)) false (X.v (A.load Sh.s (O.t 27)))), (I.mk (some 29) (some (24, false)) false (X.v (A.bin BinOp.sub (O.t 28) (O.k (V.int IntKind.i64 (Int.ofNat 1)))))), (I.mk (some 30) (some (24, false)) false (X.call (O.k (V.fn 56 [] [])) [(O.t 26), (O.k (V.int IntKind.i64 (Int.ofNat 0))), (O.t 29)])), (I.mk (some 31) (some (24, false)) false (X.v (A.un UnOp.not (O.t 30)))), (I.mk (some 32) none false (X.v (A.pick (O.t 24) (O.k (V.bool true)) (O.t 31)))), (I.mk (some 33) none false (X.v (A.mov (O.t 32)))), (I.mk (some 34) (some (33, false)) false (X.v (A.idxA (O.t 4) (O.k (V.int IntKind.i64 (Int.ofNat 0))) 2 1))), (I.mk (some 35) (some (33, false)) false (X.v (A.load Sh.s (O.t 34)))), (I.mk (some 36) (some (33, false)) false (X.v (A.idxA (O.t 4) (O.k (V.int IntKind.i64 (Int.ofNat 1))) 2 1))), (I.mk (some 37) (some (33, false)) false (X.v (A.load Sh.s (O.t 36)))), (I.mk (some 38) (some (33, false)) false (X.v (A.bin BinOp.geq (O.t 35) (O.t 37)))), (I.mk (some 39) none false (X.v (A.pick (O.t 33) (O.k (V.bool true)) (O.t 38)))), (I.mk (some 40) none false (X.v (A.mov (O.t 39)))), (I.mk (some 41) (some (40, false)) false (X.v (A.mov (O.t 3)))), (I.mk (some 42) (some (40, false)) false (X.v (A.bin BinOp.gtr (O.t 41) (O.k (V.int IntKind.i64 (Int.ofNat 0)))))), (I.mk (some 43) (some (40, false)) false (X.v (A.mov (O.t 42)))), (I.mk (some 44) (some (43, true)) false (X.v (A.fld (O.t 1) 1 1))), (I.mk (some 45) (some (43, true)) false (X.v (A.load Sh.p (O.t 44)))), (I.mk (some 46) (some (43, true)) false (X.v (A.mov (O.t 3)))), (I.mk (some 47) (some (43, true)) false (X.v (A.bin BinOp.sub (O.t 46) (O.k (V.int IntKind.i64 (Int.ofNat 1)))))), (I.mk (some 48) (some (43, true)) false (X.v (A.idx (O.t 45) (O.t 47) 2))), (I.mk (some 49) (some (43, true)) false (X.v (A.load (Sh.ag [Sh.s, Sh.s]) (O.t 48)))), (I.mk (some 50) (some (43, true)) false (X.v (A.load (Sh.ag [Sh.s, Sh.s]) (O.t 4)))), (I.mk (some 51) (some (43, true)) false (X.call (O.k (V.fn 57 [] [])) [(O.t 49), (O.t 50)])), (I.mk (some 52) (some (43, true)) false (X.v (A.un UnOp.not (O.t 51)))), (I.mk (some 53) (some (40, false)) false (X.v (A.pick (O.t 43) (O.t 52) (O.k (V.bool false))))), (I.mk (some 54) none false (X.v (A.pick (O.t 40) (O.k (V.bool true)) (O.t 53))))] []) A30_5)
def A30_6 : AC := (AC.reg [] [(I.mk (some 10) none false (X.v (A.mov (O.t 3)))), (I.mk (some 11) none false (X.v (A.bin BinOp.add (O.t 10) (O.k (V.int IntKind.i64 (Int.ofNat 1)))))), (I.mk (some 3) none false (X.v (A.mov (O.t 11))))] [])
def A30_3 : AC := (AC.seq (AC.block 1 (AC.seq (AC.reg [.clr [4]] [(I.mk (some 12) none false (X.v (A.fld (O.t 1) 1 1))), (I.mk (some 13) none false (X.v (A.load Sh.p (O.t 12)))), (I.mk (some 14) none false (X.v (A.mov (O.t 3)))), (I.mk (some 15) none false (X.v (A.idx (O.t 13) (O.t 14) 2))), (I.mk (some 16) none false (X.v (A.load (Sh.ag [Sh.s, Sh.s]) (O.t 15)))), (I.mk (some 4) none false (X.alloc (V.agg [(V.int IntKind.i64 (Int.ofNat 0)), (V.int IntKind.i64 (Int.ofNat 0))]))), (I.mk none none false (X.store (Sh.ag [Sh.s, Sh.s]) (O.t 4) (O.t 16)))] []) A30_4)) A30_6)
def A30_1 : AC := (AC.seq (AC.seq (AC.reg [] [(I.mk (some 5) none false (X.v (A.mov (O.t 3)))), (I.mk (some 6) none false (X.v (A.fld (O.t 1) 1 1))), (I.mk (some 7) none false (X.v (A.load Sh.p (O.t 6)))), (I.mk (some 8) none false (X.v (A.len (O.t 7)))), (I.mk (some 9) none false (X.v (A.bin BinOp.lss (O.t 5) (O.t 8))))] []) A30_2) A30_3)
def A30_7 : AC := (AC.seq (AC.reg [] [(I.mk (some 55) none false (X.v (A.fld (O.t 1) 0 0))), (I.mk (some 56) none false (X.v (A.load Sh.s (O.t 55)))), (I.mk (some 57) none false (X.call (O.k (V.fn 56 [] [])) [(O.t 56), (O.k (V.int IntKind.i64 (Int.ofNat 0))), (O.k (V.int IntKind.i64 (Int.ofNat 8)))])), (I.mk (some 2) none false (X.v (A.mov (O.t 57))))] []) AC.ret)
def A30_9 : AC := (AC.block 0 (AC.loop A30_1))
def A30_8 : AC := (AC.seq (AC.seq (AC.reg [] [(I.mk (some 3) none false (X.v (A.mov (O.k (V.int IntKind.i64 (Int.ofNat 0))))))] []) A30_9) A30_7)
def A30 : AC := (AC.seq (AC.reg [.clr [1]] [(I.mk (some 1) none false (X.box (O.t 0))), (I.mk (some 2) none false (X.v (A.mov (O.k (V.bool false)))))] []) A30_8)
def an30 : List An := [{ id := 0, pre := [.clr [1]], ep := [] }, { id := 4, pre := [.clr [4]], ep := [] }]
theorem c30 : cC Try.prog Try.f30.ntmps an30 (Try.f30.body.getD .skip) = some A30 := by rfl
structure H30 (D : Den) (σ : Sig) (F : Nat) : Prop where
  c56 : ∀ x0 x1 x2 r, s_l1In F x0 x1 x2 = some r → D 56 [Enc.enc x0, Enc.enc x1, Enc.enc x2] = some (Enc.enc (r : Bool))
  g56 : σ 56 = some (0, false)
  c57 : ∀ x0 x1 r, s_l2Before F x0 x1 = some r → D 57 [Enc.enc x0, Enc.enc x1] = some (Enc.enc (r : Bool))
  g57 : σ 57 = some (0, false)
abbrev R30 (r : Bool) : (Nat → V) → Prop := RR Try.prog [.tmp 2] 0 false (Enc.enc (r : Bool))
section
variable {D : Den} {σ : Sig} {F : Nat} {r : Bool}
def s_l2Good_j3 (F : Nat) (g_1 : (Int × (List (Int × Int)))) (i_12 : Int) (c1 : Int → Option Bool) (t54_28 : Bool) : Option Bool :=
  bif t54_28 then
    some false
  else
    c1 (w64 (i_12 + 1))
theorem t_f30_j3 (H : H30 D σ F) (g_1 : (Int × (List (Int × Int)))) (i_12 : Int) (c1 : Int → Option Bool) (Hc1 : ∀ (i_12 : Int) (s : Nat → V), Facts [(1, (.ref (.bx 1) 0 [] (.agg [(.int .i64 g_1.1), (Enc.enc (g_1.2 : List (Int × Int)))]))), (2, (.bool false)), (3, (.int .i64 i_12))] s → c1 i_12 = some r → Run D σ (R30 r) (.run A30_1 [.lp A30_1, .bk 0, .sq A30_7]) s) (t54_28 : Bool) (s : Nat → V) (hs : Facts [(1, (.ref (.bx 1) 0 [] (.agg [(.int .i64 g_1.1), (Enc.enc (g_1.2 : List (Int × Int)))]))), (2, (.bool false)), (3, (.int .i64 i_12)), (54, (.bool t54_28))] s) (h : s_l2Good_j3 F g_1 i_12 c1 t54_28 = some r) : Run D σ (R30 r) (.nrm [.sq A30_5, .bk 1, .sq A30_6, .lp A30_1, .bk 0, .sq A30_7]) s := by
  unfold s_l2Good_j3 at h
  obtain ⟨h1, h2, h3, h54⟩ := hs
  refine .nsq ?_
  refine run_cond (t := t54_28) h54 h (fun h => ?_) (fun h => ?_)
  · refine .seq ?_
    refine run_reg ?_
    refine e_end ?_
    refine g_v0 (.bool false) rfl rfl ?_
    refine g_end ?_
    refine e_end ?_
    refine renew [(1, (.ref (.bx 1) 0 [] (.agg [(.int .i64 g_1.1), (Enc.enc (g_1.2 : List (Int × Int)))]))), (2, (.bool false)), (3, (.int .i64 i_12))] ⟨h1, rfl, h3⟩ ?_
    rintro s ⟨h1, h2, h3⟩
    refine .nsq ?_
    refine .ret ?_
    have hr := Option.some.inj h
    subst hr
    exact rrA (res_tmp h2) rfl
  · refine .skip ?_
    refine .nbk ?_
    refine .nsq ?_
    refine run_reg ?_
    refine e_end ?_
    refine g_v1 (t := 3) (u := (.int .i64 i_12)) (.int .i64 i_12) h3 rfl rfl ?_
    refine g_v1 (t := 10) (u := (.int .i64 i_12)) (.int .i64 (w64 (i_12 + 1))) rfl rfl rfl ?_
    refine g_v1 (t := 11) (u := (.int .i64 (w64 (i_12 + 1)))) (.int .i64 (w64 (i_12 + 1))) rfl rfl rfl ?_
    refine g_end ?_
    refine e_end ?_
    refine renew [(1, (.ref (.bx 1) 0 [] (.agg [(.int .i64 g_1.1), (Enc.enc (g_1.2 : List (Int × Int)))]))), (2, (.bool false)), (3, (.int .i64 (w64 (i_12 + 1))))] ⟨h1, h2, rfl⟩ ?_
    rintro s ⟨h1, h2, h3⟩
    refine .nlp ?_
    exact Hc1 (w64 (i_12 + 1)) _ ⟨h1, h2, h3⟩ h
def s_l2Good_l1 (F : Nat) (g_1 : (Int × (List (Int × Int))))  : Nat → Int → Option Bool
  | 0, _ => none
  | k + 1, i_12 =>
    bif decide (i_12 < (g_1.2.length : Int)) then
      (idx g_1.2 i_12).bind fun e_23 =>
      (s_l1In F e_23.1 0 (w64 (g_1.1 - 1))).bind fun r_29 =>
      bif (!r_29) then
        s_l2Good_j3 F g_1 i_12 (s_l2Good_l1 F g_1 k) true
      else
        (s_l1In F e_23.2 0 (w64 (g_1.1 - 1))).bind fun r_30 =>
        bif (!r_30) then
          s_l2Good_j3 F g_1 i_12 (s_l2Good_l1 F g_1 k) true
        else
          bif decide (e_23.1 ≥ e_23.2) then
            s_l2Good_j3 F g_1 i_12 (s_l2Good_l1 F g_1 k) true
          else
            bif decide (i_12 > 0) then
              (idx g_1.2 (w64 (i_12 - 1))).bind fun e_31 =>
              (s_l2Before F e_31 e_23).bind fun r_32 =>
              s_l2Good_j3 F g_1 i_12 (s_l2Good_l1 F g_1 k) (!r_32)
            else
              s_l2Good_j3 F g_1 i_12 (s_l2Good_l1 F g_1 k) false
    else
      (s_l1In F g_1.1 0 8).bind fun r_33 =>
      some r_33
theorem t_f30_l1 (H : H30 D σ F) (g_1 : (Int × (List (Int × Int))))  : ∀ (k : Nat) (i_12 : Int) (s : Nat → V), Facts [(1, (.ref (.bx 1) 0 [] (.agg [(.int .i64 g_1.1), (Enc.enc (g_1.2 : List (Int × Int)))]))), (2, (.bool false)), (3, (.int .i64 i_12))] s → s_l2Good_l1 F g_1 k i_12 = some r → Run D σ (R30 r) (.run A30_1 [.lp A30_1, .bk 0, .sq A30_7]) s := by
  intro k
  induction k with
  | zero => intro i_12 s _ h; exact nomatch (h : (none : Option _) = some r)
  | succ k ih =>
    intro i_12 s hs h
    rw [s_l2Good_l1] at h
    obtain ⟨h1, h2, h3⟩ := hs
    refine .seq ?_
    refine .seq ?_
    refine run_reg ?_
    refine e_end ?_
    refine g_v1 (t := 3) (u := (.int .i64 i_12)) (.int .i64 i_12) h3 rfl rfl ?_
    refine g_v1 (t := 1) (u := (.ref (.bx 1) 0 [] (.agg [(.int .i64 g_1.1), (Enc.enc (g_1.2 : List (Int × Int)))]))) (.ref (.bx 1) 0 [1] (Enc.enc (g_1.2 : List (Int × Int)))) h1 rfl rfl ?_
    refine g_v1 (t := 6) (u := (.ref (.bx 1) 0 [1] (Enc.enc (g_1.2 : List (Int × Int))))) (Enc.enc (g_1.2 : List (Int × Int))) rfl rfl rfl ?_
    refine g_v (.int .i64 (g_1.2.length : Int)) (ev_len (xs := g_1.2) rfl) ?_
    refine g_v2 (t1 := 5) (t2 := 8) (u1 := (.int .i64 i_12)) (u2 := (.int .i64 (g_1.2.length : Int))) (.bool (decide (i_12 < (g_1.2.length : Int)))) rfl rfl rfl rfl ?_
    refine g_end ?_
    refine e_end ?_
    refine renew [(1, (.ref (.bx 1) 0 [] (.agg [(.int .i64 g_1.1), (Enc.enc (g_1.2 : List (Int × Int)))]))), (2, (.bool false)), (3, (.int .i64 i_12)), (9, (.bool (decide (i_12 < (g_1.2.length : Int)))))] ⟨h1, h2, h3, rfl⟩ ?_
    rintro s ⟨h1, h2, h3, h9⟩
    refine .nsq ?_
    refine run_cond (t := decide (i_12 < (g_1.2.length : Int))) h9 h (fun h => ?_) (fun h => ?_)
    · refine .skip ?_
      refine .nsq ?_
      refine .seq ?_
      refine .block ?_
      refine .seq ?_
      refine run_reg ?_
      refine e_clr ?_
      refine e_end ?_
      refine g_v1 (t := 1) (u := (.ref (.bx 1) 0 [] (.agg [(.int .i64 g_1.1), (Enc.enc (g_1.2 : List (Int × Int)))]))) (.ref (.bx 1) 0 [1] (Enc.enc (g_1.2 : List (Int × Int)))) (keep_clear (s := s) (pk := [4]) h1 rfl (map_bx rfl (map_agg (maps_cons rfl (maps_cons (Enc.map_enc _ (g_1.2 : List (Int × Int))) maps_nil))))) rfl rfl ?_
      refine g_v1 (t := 12) (u := (.ref (.bx 1) 0 [1] (Enc.enc (g_1.2 : List (Int × Int))))) (Enc.enc (g_1.2 : List (Int × Int))) rfl rfl rfl ?_
      refine g_v1 (t := 3) (u := (.int .i64 i_12)) (.int .i64 i_12) (keep_clear (s := s) (pk := [4]) h3 rfl rfl) rfl rfl ?_
      obtain ⟨e_23, E_e_23, h⟩ := bind_some h
      refine g_v (.ref .sh 0 [] (.agg [(.int .i64 e_23.1), (.int .i64 e_23.2)])) (ev_idx (t := .sh) (lo := 0) (xs := g_1.2) rfl rfl E_e_23 rfl rfl) ?_
      refine g_v1 (t := 15) (u := (.ref .sh 0 [] (.agg [(.int .i64 e_23.1), (.int .i64 e_23.2)]))) (.agg [(.int .i64 e_23.1), (.int .i64 e_23.2)]) rfl rfl rfl ?_
      refine g_alloc (gone_clear (s := s) (pk := [4]) (t := 4) rfl) ?_
      refine g_store (.agg [(.int .i64 e_23.1), (.int .i64 e_23.2)]) (rd_of rfl rfl) (rd_of rfl rfl) (by refine ⟨by decide, by decide, rfl, rfl, rfl, ?_⟩; first | rfl | simp [V.toks, V.tokss, Enc.toks_enc]) ?_
      refine g_end ?_
      refine e_end ?_
      refine renew [(1, (.ref (.bx 1) 0 [] (.agg [(.int .i64 g_1.1), (Enc.enc (g_1.2 : List (Int × Int)))]))), (2, (.bool false)), (3, (.int .i64 i_12)), (4, (.ref (.bx 4) 0 [] (.agg [(.int .i64 e_23.1), (.int .i64 e_23.2)])))] ⟨(keep_mut (keep_clear (s := s) (pk := [4]) h1 rfl (map_bx rfl (map_agg (maps_cons rfl (maps_cons (Enc.map_enc _ (g_1.2 : List (Int × Int))) maps_nil))))) (mut_ref_ne rfl rfl (mut_agg (muts_cons rfl (muts_cons (Enc.mut_enc _ _ _ _ (g_1.2 : List (Int × Int))) rfl))))), (keep_mut (keep_clear (s := s) (pk := [4]) h2 rfl rfl) rfl), (keep_mut (keep_clear (s := s) (pk := [4]) h3 rfl rfl) rfl), (keep_mut rfl rfl)⟩ ?_
      rintro s ⟨h1, h2, h3, h4⟩
      refine .nsq ?_
      refine .seq ?_
      refine run_reg ?_
      refine e_end ?_
      refine g_v1 (t := 4) (u := (.ref (.bx 4) 0 [] (.agg [(.int .i64 e_23.1), (.int .i64 e_23.2)]))) (.ref (.bx 4) 0 [0] (.int .i64 e_23.1)) h4 rfl rfl ?_
      refine g_v1 (t := 17) (u := (.ref (.bx 4) 0 [0] (.int .i64 e_23.1))) (.int .i64 e_23.1) rfl rfl rfl ?_
      refine g_v1 (t := 1) (u := (.ref (.bx 1) 0 [] (.agg [(.int .i64 g_1.1), (Enc.enc (g_1.2 : List (Int × Int)))]))) (.ref (.bx 1) 0 [0] (.int .i64 g_1.1)) h1 rfl rfl ?_
      refine g_v1 (t := 19) (u := (.ref (.bx 1) 0 [0] (.int .i64 g_1.1))) (.int .i64 g_1.1) rfl rfl rfl ?_
      refine g_v1 (t := 20) (u := (.int .i64 g_1.1)) (.int .i64 (w64 (g_1.1 - 1))) rfl rfl rfl ?_
      obtain ⟨r_29, E_r_29, h⟩ := bind_some h
      refine g_call (m := 0) (al := false) (r := (Enc.enc (r_29 : Bool))) [Enc.enc (e_23.1 : Int), Enc.enc (0 : Int), Enc.enc (w64 (g_1.1 - 1) : Int)] (ta_cons (v := (.int .i64 e_23.1)) rfl rfl rfl (ta_cons (v := (.int .i64 0)) rfl rfl rfl (ta_cons (v := (.int .i64 (w64 (g_1.1 - 1)))) rfl rfl rfl ta_nil))) (H.c56 _ _ _ _ E_r_29) H.g56 rfl rfl rfl rfl ?_
      refine g_v1 (t := 22) (u := (.bool r_29)) (.bool (!r_29)) rfl rfl rfl ?_
      refine g_v1 (t := 23) (u := (.bool (!r_29))) (.bool (!r_29)) rfl rfl rfl ?_
      refine split_on (c := (!r_29)) h (fun hg8 h => ?_) (fun hg8 h => ?_)
      · refine g_no (Eq.trans (b := .bool (!r_29)) rfl (congrArg V.bool hg8)) ?_
        refine g_no (Eq.trans (b := .bool (!r_29)) rfl (congrArg V.bool hg8)) ?_
        refine g_no (Eq.trans (b := .bool (!r_29)) rfl (congrArg V.bool hg8)) ?_
        refine g_no (Eq.trans (b := .bool (!r_29)) rfl (congrArg V.bool hg8)) ?_
        refine g_no (Eq.trans (b := .bool (!r_29)) rfl (congrArg V.bool hg8)) ?_
        refine g_no (Eq.trans (b := .bool (!r_29)) rfl (congrArg V.bool hg8)) ?_
        refine g_no (Eq.trans (b := .bool (!r_29)) rfl (congrArg V.bool hg8)) ?_
        refine g_v2 (t1 := 24) (t2 := 31) (u1 := (.bool true)) (u2 := (.tup [])) (.bool true) (Eq.trans (b := .bool (!r_29)) rfl (congrArg V.bool hg8)) rfl rfl rfl ?_
        refine g_v1 (t := 32) (u := (.bool true)) (.bool true) rfl rfl rfl ?_
        refine g_no rfl ?_
        refine g_no rfl ?_
        refine g_no rfl ?_
        refine g_no rfl ?_
        refine g_no rfl ?_
        refine g_v2 (t1 := 33) (t2 := 38) (u1 := (.bool true)) (u2 := (.tup [])) (.bool true) rfl rfl rfl rfl ?_
        refine g_v1 (t := 39) (u := (.bool true)) (.bool true) rfl rfl rfl ?_
        refine g_no rfl ?_
        refine g_no rfl ?_
        refine g_no rfl ?_
        refine g_skip rfl ?_
        refine g_skip rfl ?_
        refine g_skip rfl ?_
        refine g_skip rfl ?_
        refine g_skip rfl ?_
        refine g_skip rfl ?_
        refine g_skip rfl ?_
        refine g_skip rfl ?_
        refine g_skip rfl ?_
        refine g_no rfl ?_
        refine g_v2 (t1 := 40) (t2 := 53) (u1 := (.bool true)) (u2 := (.tup [])) (.bool true) rfl rfl rfl rfl ?_
        refine g_end ?_
        refine e_end ?_
        refine renew [(1, (.ref (.bx 1) 0 [] (.agg [(.int .i64 g_1.1), (Enc.enc (g_1.2 : List (Int × Int)))]))), (2, (.bool false)), (3, (.int .i64 i_12)), (54, (.bool true))] ⟨h1, h2, h3, rfl⟩ ?_
        rintro s ⟨h1, h2, h3, h54⟩
        exact t_f30_j3 H g_1 i_12 (s_l2Good_l1 F g_1 k) ih true _ ⟨h1, h2, h3, h54⟩ h
      · refine g_yes (Eq.trans (b := .bool (!r_29)) rfl (congrArg V.bool hg8)) (g_v1 (t := 4) (u := (.ref (.bx 4) 0 [] (.agg [(.int .i64 e_23.1), (.int .i64 e_23.2)]))) (.ref (.bx 4) 0 [1] (.int .i64 e_23.2)) h4 rfl rfl ?_)
        refine g_yes (Eq.trans (b := .bool (!r_29)) rfl (congrArg V.bool hg8)) (g_v1 (t := 25) (u := (.ref (.bx 4) 0 [1] (.int .i64 e_23.2))) (.int .i64 e_23.2) rfl rfl rfl ?_)
        refine g_yes (Eq.trans (b := .bool (!r_29)) rfl (congrArg V.bool hg8)) (g_v1 (t := 1) (u := (.ref (.bx 1) 0 [] (.agg [(.int .i64 g_1.1), (Enc.enc (g_1.2 : List (Int × Int)))]))) (.ref (.bx 1) 0 [0] (.int .i64 g_1.1)) h1 rfl rfl ?_)
        refine g_yes (Eq.trans (b := .bool (!r_29)) rfl (congrArg V.bool hg8)) (g_v1 (t := 27) (u := (.ref (.bx 1) 0 [0] (.int .i64 g_1.1))) (.int .i64 g_1.1) rfl rfl rfl ?_)
        refine g_yes (Eq.trans (b := .bool (!r_29)) rfl (congrArg V.bool hg8)) (g_v1 (t := 28) (u := (.int .i64 g_1.1)) (.int .i64 (w64 (g_1.1 - 1))) rfl rfl rfl ?_)
        obtain ⟨r_30, E_r_30, h⟩ := bind_some h
        refine g_yes (Eq.trans (b := .bool (!r_29)) rfl (congrArg V.bool hg8)) (g_call (m := 0) (al := false) (r := (Enc.enc (r_30 : Bool))) [Enc.enc (e_23.2 : Int), Enc.enc (0 : Int), Enc.enc (w64 (g_1.1 - 1) : Int)] (ta_cons (v := (.int .i64 e_23.2)) rfl rfl rfl (ta_cons (v := (.int .i64 0)) rfl rfl rfl (ta_cons (v := (.int .i64 (w64 (g_1.1 - 1)))) rfl rfl rfl ta_nil))) (H.c56 _ _ _ _ E_r_30) H.g56 rfl rfl rfl rfl ?_)
        refine g_yes (Eq.trans (b := .bool (!r_29)) rfl (congrArg V.bool hg8)) (g_v1 (t := 30) (u := (.bool r_30)) (.bool (!r_30)) rfl rfl rfl ?_)
        refine g_v2 (t1 := 24) (t2 := 31) (u1 := (.bool false)) (u2 := (.bool (!r_30))) (.bool (!r_30)) (Eq.trans (b := .bool (!r_29)) rfl (congrArg V.bool hg8)) rfl rfl rfl ?_
        refine g_v1 (t := 32) (u := (.bool (!r_30))) (.bool (!r_30)) rfl rfl rfl ?_
        refine split_on (c := (!r_30)) h (fun hg17 h => ?_) (fun hg17 h => ?_)
        · refine g_no (Eq.trans (b := .bool (!r_30)) rfl (congrArg V.bool hg17)) ?_
          refine g_no (Eq.trans (b := .bool (!r_30)) rfl (congrArg V.bool hg17)) ?_
          refine g_no (Eq.trans (b := .bool (!r_30)) rfl (congrArg V.bool hg17)) ?_
          refine g_no (Eq.trans (b := .bool (!r_30)) rfl (congrArg V.bool hg17)) ?_
          refine g_no (Eq.trans (b := .bool (!r_30)) rfl (congrArg V.bool hg17)) ?_
          refine g_v2 (t1 := 33) (t2 := 38) (u1 := (.bool true)) (u2 := (.tup [])) (.bool true) (Eq.trans (b := .bool (!r_30)) rfl (congrArg V.bool hg17)) rfl rfl rfl ?_
          refine g_v1 (t := 39) (u := (.bool true)) (.bool true) rfl rfl rfl ?_
          refine g_no rfl ?_
          refine g_no rfl ?_
          refine g_no rfl ?_
          refine g_skip rfl ?_
          refine g_skip rfl ?_
          refine g_skip rfl ?_
          refine g_skip rfl ?_
          refine g_skip rfl ?_
          refine g_skip rfl ?_
          refine g_skip rfl ?_
          refine g_skip rfl ?_
          refine g_skip rfl ?_
          refine g_no rfl ?_
          refine g_v2 (t1 := 40) (t2 := 53) (u1 := (.bool true)) (u2 := (.tup [])) (.bool true) rfl rfl rfl rfl ?_
          refine g_end ?_
          refine e_end ?_
          refine renew [(1, (.ref (.bx 1) 0 [] (.agg [(.int .i64 g_1.1), (Enc.enc (g_1.2 : List (Int × Int)))]))), (2, (.bool false)), (3, (.int .i64 i_12)), (54, (.bool true))] ⟨h1, h2, h3, rfl⟩ ?_
          rintro s ⟨h1, h2, h3, h54⟩
          exact t_f30_j3 H g_1 i_12 (s_l2Good_l1 F g_1 k) ih true _ ⟨h1, h2, h3, h54⟩ h
        · refine g_yes (Eq.trans (b := .bool (!r_30)) rfl (congrArg V.bool hg17)) (g_v1 (t := 4) (u := (.ref (.bx 4) 0 [] (.agg [(.int .i64 e_23.1), (.int .i64 e_23.2)]))) (.ref (.bx 4) 0 [0] (.int .i64 e_23.1)) h4 rfl rfl ?_)
          refine g_yes (Eq.trans (b := .bool (!r_30)) rfl (congrArg V.bool hg17)) (g_v1 (t := 34) (u := (.ref (.bx 4) 0 [0] (.int .i64 e_23.1))) (.int .i64 e_23.1) rfl rfl rfl ?_)
          refine g_yes (Eq.trans (b := .bool (!r_30)) rfl (congrArg V.bool hg17)) (g_v1 (t := 4) (u := (.ref (.bx 4) 0 [] (.agg [(.int .i64 e_23.1), (.int .i64 e_23.2)]))) (.ref (.bx 4) 0 [1] (.int .i64 e_23.2)) h4 rfl rfl ?_)
          refine g_yes (Eq.trans (b := .bool (!r_30)) rfl (congrArg V.bool hg17)) (g_v1 (t := 36) (u := (.ref (.bx 4) 0 [1] (.int .i64 e_23.2))) (.int .i64 e_23.2) rfl rfl rfl ?_)
          refine g_yes (Eq.trans (b := .bool (!r_30)) rfl (congrArg V.bool hg17)) (g_v2 (t1 := 35) (t2 := 37) (u1 := (.int .i64 e_23.1)) (u2 := (.int .i64 e_23.2)) (.bool (decide (e_23.1 ≥ e_23.2))) rfl rfl rfl rfl ?_)
          refine g_v2 (t1 := 33) (t2 := 38) (u1 := (.bool false)) (u2 := (.bool (decide (e_23.1 ≥ e_23.2)))) (.bool (decide (e_23.1 ≥ e_23.2))) (Eq.trans (b := .bool (!r_30)) rfl (congrArg V.bool hg17)) rfl rfl rfl ?_
          refine g_v1 (t := 39) (u := (.bool (decide (e_23.1 ≥ e_23.2)))) (.bool (decide (e_23.1 ≥ e_23.2))) rfl rfl rfl ?_
          refine split_on (c := decide (e_23.1 ≥ e_23.2)) h (fun hg24 h => ?_) (fun hg24 h => ?_)
          · refine g_no (Eq.trans (b := .bool (decide (e_23.1 ≥ e_23.2))) rfl (congrArg V.bool hg24)) ?_
            refine g_no (Eq.trans (b := .bool (decide (e_23.1 ≥ e_23.2))) rfl (congrArg V.bool hg24)) ?_
            refine g_no (Eq.trans (b := .bool (decide (e_23.1 ≥ e_23.2))) rfl (congrArg V.bool hg24)) ?_
            refine g_skip rfl ?_
            refine g_skip rfl ?_
            refine g_skip rfl ?_
            refine g_skip rfl ?_
            refine g_skip rfl ?_
            refine g_skip rfl ?_
            refine g_skip rfl ?_
            refine g_skip rfl ?_
            refine g_skip rfl ?_
            refine g_no (Eq.trans (b := .bool (decide (e_23.1 ≥ e_23.2))) rfl (congrArg V.bool hg24)) ?_
            refine g_v2 (t1 := 40) (t2 := 53) (u1 := (.bool true)) (u2 := (.tup [])) (.bool true) (Eq.trans (b := .bool (decide (e_23.1 ≥ e_23.2))) rfl (congrArg V.bool hg24)) rfl rfl rfl ?_
            refine g_end ?_
            refine e_end ?_
            refine renew [(1, (.ref (.bx 1) 0 [] (.agg [(.int .i64 g_1.1), (Enc.enc (g_1.2 : List (Int × Int)))]))), (2, (.bool false)), (3, (.int .i64 i_12)), (54, (.bool true))] ⟨h1, h2, h3, rfl⟩ ?_
            rintro s ⟨h1, h2, h3, h54⟩
            exact t_f30_j3 H g_1 i_12 (s_l2Good_l1 F g_1 k) ih true _ ⟨h1, h2, h3, h54⟩ h
          · refine g_yes (Eq.trans (b := .bool (decide (e_23.1 ≥ e_23.2))) rfl (congrArg V.bool hg24)) (g_v1 (t := 3) (u := (.int .i64 i_12)) (.int .i64 i_12) h3 rfl rfl ?_)
            refine g_yes (Eq.trans (b := .bool (decide (e_23.1 ≥ e_23.2))) rfl (congrArg V.bool hg24)) (g_v1 (t := 41) (u := (.int .i64 i_12)) (.bool (decide (i_12 > 0))) rfl rfl rfl ?_)
            refine g_yes (Eq.trans (b := .bool (decide (e_23.1 ≥ e_23.2))) rfl (congrArg V.bool hg24)) (g_v1 (t := 42) (u := (.bool (decide (i_12 > 0)))) (.bool (decide (i_12 > 0))) rfl rfl rfl ?_)
            refine split_on (c := decide (i_12 > 0)) h (fun hg27 h => ?_) (fun hg27 h => ?_)
            · refine g_yes (Eq.trans (b := .bool (decide (i_12 > 0))) rfl (congrArg V.bool hg27)) (g_v1 (t := 1) (u := (.ref (.bx 1) 0 [] (.agg [(.int .i64 g_1.1), (Enc.enc (g_1.2 : List (Int × Int)))]))) (.ref (.bx 1) 0 [1] (Enc.enc (g_1.2 : List (Int × Int)))) h1 rfl rfl ?_)
              refine g_yes (Eq.trans (b := .bool (decide (i_12 > 0))) rfl (congrArg V.bool hg27)) (g_v1 (t := 44) (u := (.ref (.bx 1) 0 [1] (Enc.enc (g_1.2 : List (Int × Int))))) (Enc.enc (g_1.2 : List (Int × Int))) rfl rfl rfl ?_)
              refine g_yes (Eq.trans (b := .bool (decide (i_12 > 0))) rfl (congrArg V.bool hg27)) (g_v1 (t := 3) (u := (.int .i64 i_12)) (.int .i64 i_12) h3 rfl rfl ?_)
              refine g_yes (Eq.trans (b := .bool (decide (i_12 > 0))) rfl (congrArg V.bool hg27)) (g_v1 (t := 46) (u := (.int .i64 i_12)) (.int .i64 (w64 (i_12 - 1))) rfl rfl rfl ?_)
              obtain ⟨e_31, E_e_31, h⟩ := bind_some h
              refine g_yes (Eq.trans (b := .bool (decide (i_12 > 0))) rfl (congrArg V.bool hg27)) (g_v (.ref .sh 0 [] (.agg [(.int .i64 e_31.1), (.int .i64 e_31.2)])) (ev_idx (t := .sh) (lo := 0) (xs := g_1.2) rfl rfl E_e_31 rfl rfl) ?_)
              refine g_yes (Eq.trans (b := .bool (decide (i_12 > 0))) rfl (congrArg V.bool hg27)) (g_v1 (t := 48) (u := (.ref .sh 0 [] (.agg [(.int .i64 e_31.1), (.int .i64 e_31.2)]))) (.agg [(.int .i64 e_31.1), (.int .i64 e_31.2)]) rfl rfl rfl ?_)
              refine g_yes (Eq.trans (b := .bool (decide (i_12 > 0))) rfl (congrArg V.bool hg27)) (g_v1 (t := 4) (u := (.ref (.bx 4) 0 [] (.agg [(.int .i64 e_23.1), (.int .i64 e_23.2)]))) (.agg [(.int .i64 e_23.1), (.int .i64 e_23.2)]) h4 rfl rfl ?_)
              obtain ⟨r_32, E_r_32, h⟩ := bind_some h
              refine g_yes (Eq.trans (b := .bool (decide (i_12 > 0))) rfl (congrArg V.bool hg27)) (g_call (m := 0) (al := false) (r := (Enc.enc (r_32 : Bool))) [Enc.enc (e_31 : (Int × Int)), Enc.enc (e_23 : (Int × Int))] (ta_cons (v := (.agg [(.int .i64 e_31.1), (.int .i64 e_31.2)])) rfl rfl (Enc.erase_enc (e_31 : (Int × Int))) (ta_cons (v := (.agg [(.int .i64 e_23.1), (.int .i64 e_23.2)])) rfl rfl (Enc.erase_enc (e_23 : (Int × Int))) ta_nil)) (H.c57 _ _ _ E_r_32) H.g57 rfl rfl rfl rfl ?_)
              refine g_yes (Eq.trans (b := .bool (decide (i_12 > 0))) rfl (congrArg V.bool hg27)) (g_v1 (t := 51) (u := (.bool r_32)) (.bool (!r_32)) rfl rfl rfl ?_)
              refine g_yes (Eq.trans (b := .bool (decide (e_23.1 ≥ e_23.2))) rfl (congrArg V.bool hg24)) (g_v2 (t1 := 43) (t2 := 52) (u1 := (.bool true)) (u2 := (.bool (!r_32))) (.bool (!r_32)) (Eq.trans (b := .bool (decide (i_12 > 0))) rfl (congrArg V.bool hg27)) rfl rfl rfl ?_)
              refine g_v2 (t1 := 40) (t2 := 53) (u1 := (.bool false)) (u2 := (.bool (!r_32))) (.bool (!r_32)) (Eq.trans (b := .bool (decide (e_23.1 ≥ e_23.2))) rfl (congrArg V.bool hg24)) rfl rfl rfl ?_
              refine g_end ?_
              refine e_end ?_
              refine renew [(1, (.ref (.bx 1) 0 [] (.agg [(.int .i64 g_1.1), (Enc.enc (g_1.2 : List (Int × Int)))]))), (2, (.bool false)), (3, (.int .i64 i_12)), (54, (.bool (!r_32)))] ⟨h1, h2, h3, rfl⟩ ?_
              rintro s ⟨h1, h2, h3, h54⟩
              exact t_f30_j3 H g_1 i_12 (s_l2Good_l1 F g_1 k) ih (!r_32) _ ⟨h1, h2, h3, h54⟩ h
            · refine g_no (Eq.trans (b := .bool (decide (i_12 > 0))) rfl (congrArg V.bool hg27)) ?_
              refine g_no (Eq.trans (b := .bool (decide (i_12 > 0))) rfl (congrArg V.bool hg27)) ?_
              refine g_no (Eq.trans (b := .bool (decide (i_12 > 0))) rfl (congrArg V.bool hg27)) ?_
              refine g_no (Eq.trans (b := .bool (decide (i_12 > 0))) rfl (congrArg V.bool hg27)) ?_
              refine g_no (Eq.trans (b := .bool (decide (i_12 > 0))) rfl (congrArg V.bool hg27)) ?_
              refine g_no (Eq.trans (b := .bool (decide (i_12 > 0))) rfl (congrArg V.bool hg27)) ?_
              refine g_no (Eq.trans (b := .bool (decide (i_12 > 0))) rfl (congrArg V.bool hg27)) ?_
              refine g_no (Eq.trans (b := .bool (decide (i_12 > 0))) rfl (congrArg V.bool hg27)) ?_
              refine g_no (Eq.trans (b := .bool (decide (i_12 > 0))) rfl (congrArg V.bool hg27)) ?_
              refine g_yes (Eq.trans (b := .bool (decide (e_23.1 ≥ e_23.2))) rfl (congrArg V.bool hg24)) (g_v2 (t1 := 43) (t2 := 52) (u1 := (.bool false)) (u2 := (.tup [])) (.bool false) (Eq.trans (b := .bool (decide (i_12 > 0))) rfl (congrArg V.bool hg27)) rfl rfl rfl ?_)
              refine g_v2 (t1 := 40) (t2 := 53) (u1 := (.bool false)) (u2 := (.bool false)) (.bool false) (Eq.trans (b := .bool (decide (e_23.1 ≥ e_23.2))) rfl (congrArg V.bool hg24)) rfl rfl rfl ?_
              refine g_end ?_
              refine e_end ?_
              refine renew [(1, (.ref (.bx 1) 0 [] (.agg [(.int .i64 g_1.1), (Enc.enc (g_1.2 : List (Int × Int)))]))), (2, (.bool false)), (3, (.int .i64 i_12)), (54, (.bool false))] ⟨h1, h2, h3, rfl⟩ ?_
              rintro s ⟨h1, h2, h3, h54⟩
              exact t_f30_j3 H g_1 i_12 (s_l2Good_l1 F g_1 k) ih false _ ⟨h1, h2, h3, h54⟩ h
    · refine .exit ?_
      refine .esq ?_
      refine .elp ?_
      refine .ebk ?_
      refine .nsq ?_
      refine .seq ?_
      refine run_reg ?_
      refine e_end ?_
      refine g_v1 (t := 1) (u := (.ref (.bx 1) 0 [] (.agg [(.int .i64 g_1.1), (Enc.enc (g_1.2 : List (Int × Int)))]))) (.ref (.bx 1) 0 [0] (.int .i64 g_1.1)) h1 rfl rfl ?_
      refine g_v1 (t := 55) (u := (.ref (.bx 1) 0 [0] (.int .i64 g_1.1))) (.int .i64 g_1.1) rfl rfl rfl ?_
      obtain ⟨r_33, E_r_33, h⟩ := bind_some h
      refine g_call (m := 0) (al := false) (r := (Enc.enc (r_33 : Bool))) [Enc.enc (g_1.1 : Int), Enc.enc (0 : Int), Enc.enc (8 : Int)] (ta_cons (v := (.int .i64 g_1.1)) rfl rfl rfl (ta_cons (v := (.int .i64 0)) rfl rfl rfl (ta_cons (v := (.int .i64 8)) rfl rfl rfl ta_nil))) (H.c56 _ _ _ _ E_r_33) H.g56 rfl rfl rfl rfl ?_
      refine g_v1 (t := 57) (u := (.bool r_33)) (.bool r_33) rfl rfl rfl ?_
      refine g_end ?_
      refine e_end ?_
      refine renew [(2, (.bool r_33))] rfl ?_
      rintro s h2
      refine .nsq ?_
      refine .ret ?_
      have hr := Option.some.inj h
      subst hr
      exact rrA (res_tmp h2) rfl
def s_l2Good (F : Nat) (g_1 : (Int × (List (Int × Int)))) : Option Bool :=
  s_l2Good_l1 F g_1 F 0
theorem t30 (H : H30 D σ F) (g_1 : (Int × (List (Int × Int)))) (s : Nat → V) (hs : Facts [(0, (.agg [(.int .i64 g_1.1), (Enc.enc (g_1.2 : List (Int × Int)))]))] s) (h : s_l2Good F g_1 = some r) : Run D σ (R30 r) (.run A30 []) s := by
  unfold s_l2Good at h
  have h0 := hs
  refine .seq ?_
  refine run_reg ?_
  refine e_clr ?_
  refine e_end ?_
  refine g_box (.agg [(.int .i64 g_1.1), (Enc.enc (g_1.2 : List (Int × Int)))]) (rd_of (keep_clear (s := s) (pk := [1]) h0 rfl (map_agg (maps_cons rfl (maps_cons (Enc.map_enc _ (g_1.2 : List (Int × Int))) maps_nil)))) rfl) (gone_clear (s := s) (pk := [1]) (t := 1) rfl) rfl ?_
  refine g_v0 (.bool false) rfl rfl ?_
  refine g_end ?_
  refine e_end ?_
  refine renew [(1, (.ref (.bx 1) 0 [] (.agg [(.int .i64 g_1.1), (Enc.enc (g_1.2 : List (Int × Int)))]))), (2, (.bool false))] ⟨rfl, rfl⟩ ?_
  rintro s ⟨h1, h2⟩
  refine .nsq ?_
  refine .seq ?_
  refine .seq ?_
  refine run_reg ?_
  refine e_end ?_
  refine g_v0 (.int .i64 0) rfl rfl ?_
  refine g_end ?_
  refine e_end ?_
  refine renew [(1, (.ref (.bx 1) 0 [] (.agg [(.int .i64 g_1.1), (Enc.enc (g_1.2 : List (Int × Int)))]))), (2, (.bool false)), (3, (.int .i64 0))] ⟨h1, h2, rfl⟩ ?_
  rintro s ⟨h1, h2, h3⟩
  refine .nsq ?_
  refine .block ?_
  refine .loop ?_
  exact t_f30_l1 H g_1 F 0 _ ⟨h1, h2, h3⟩ h
end
def e30 (F : Nat) : Ent := ⟨30, dn1 (s_l2Good F) (fun (r : Bool) => (Enc.enc (r : Bool))), 0, false⟩
theorem o30 {D : Den} {σ : Sig} {F : Nat} (hF : Fits2 Try.prog D σ) (H : H30 D σ F) : (e30 F).Ok Try.prog := by
  refine ⟨fun args r h => ?_, ⟨Try.f30, Try.func30, rfl, rfl⟩⟩
  obtain ⟨x0, y, rfl, hy, rfl⟩ := dn1_open h
  exact contract_run hF (by kernel_rfl) Try.func30 rfl c30 (show 1 ≤ Try.f30.ntmps by decide) (t30 H x0 _ rfl hy)
/- loop.example/g01109/spec.l1Has -/
def A66_2 : AC := (AC.cond (O.t 9) AC.skip (AC.exit 0))
def A66_4 : AC := (AC.cond (O.t 17) (AC.seq (AC.reg [] [(I.mk (some 4) none false (X.v (A.mov (O.k (V.bool true)))))] []) AC.ret) AC.skip)
def A66_5 : AC := (AC.reg [] [(I.mk (some 10) none false (X.v (A.mov (O.t 5)))), (I.mk (some 11) none false (X.v (A.bin BinOp.add (O.t 10) (O.k (V.int IntKind.i64 (Int.ofNat 1)))))), (I.mk (some 5) none false (X.v (A.mov (O.t 11))))] [])
def A66_3 : AC := (AC.seq (AC.block 1 (AC.seq (AC.reg [] [(I.mk (some 12) none false (X.v (A.mov (O.t 0)))), (I.mk (some 13) none false (X.v (A.mov (O.t 5)))), (I.mk (some 14) none false (X.v (A.idx (O.t 12) (O.t 13) 1))), (I.mk (some 15) none false (X.v (A.load Sh.s (O.t 14)))), (I.mk (some 16) none false (X.v (A.mov (O.t 1)))), (I.mk (some 17) none false (X.v (A.bin BinOp.eql (O.t 15) (O.t 16))))] []) A66_4)) A66_5)
def A66_1 : AC := (AC.seq (AC.seq (AC.reg [] [(I.mk (some 6) none false (X.v (A.mov (O.t 5)))), (I.mk (some 7) none false (X.v (A.mov (O.t 0)))), (I.mk (some 8) none false (X.v (A.len (O.t 7)))), (I.mk (some 9) none false (X.v (A.bin BinOp.lss (O.t 6) (O.t 8))))] []) A66_2) A66_3)
def A66_6 : AC := (AC.seq (AC.reg [] [(I.mk (some 4) none false (X.v (A.mov (O.k (V.bool false)))))] []) AC.ret)
def A66_8 : AC := (AC.block 0 (AC.loop A66_1))
def A66_7 : AC := (AC.seq (AC.seq (AC.reg [] [(I.mk (some 5) none false (X.v (A.mov (O.k (V.int IntKind.i64 (Int.ofNat 0))))))] []) A66_8) A66_6)
def A66 : AC := (AC.seq (AC.reg [] [(I.mk (some 4) none false (X.v (A.mov (O.k (V.bool false)))))] []) A66_7)
def an66 : List An := []
theorem c66 : cC Try.prog Try.f66.ntmps an66 (Try.f66.body.getD .skip) = some A66 := by rfl
structure H66 (D : Den) (σ : Sig) (F : Nat) : Prop where
  mk ::
abbrev R66 (r : Bool) : (Nat → V) → Prop := RR Try.prog [.tmp 4] 0 false (Enc.enc (r : Bool))
section
variable {D : Den} {σ : Sig} {F : Nat} {r : Bool}
def s_l1Has_l1 (F : Nat) (l_1 : (List Int)) (n_2 : Int)  : Nat → Int → Option Bool
  | 0, _ => none
  | k + 1, i_4 =>
    bif decide (i_4 < (l_1.length : Int)) then
      (idx l_1 i_4).bind fun e_6 =>
      bif (e_6 == n_2) then
        some true
      else
        (s_l1Has_l1 F l_1 n_2 k) (w64 (i_4 + 1))
    else
      some false
theorem t_f66_l1 (H : H66 D σ F) (l_1 : (List Int)) (n_2 : Int)  : ∀ (k : Nat) (i_4 : Int) (s : Nat → V), Facts [(0, (Enc.enc (l_1 : List Int))), (1, (.int .i64 n_2)), (4, (.bool false)), (5, (.int .i64 i_4))] s → s_l1Has_l1 F l_1 n_2 k i_4 = some r → Run D σ (R66 r) (.run A66_1 [.lp A66_1, .bk 0, .sq A66_6]) s := by
  intro k
  induction k with
  | zero => intro i_4 s _ h; exact nomatch (h : (none : Option _) = some r)
  | succ k ih =>
    intro i_4 s hs h
    rw [s_l1Has_l1] at h
    obtain ⟨h0, h1, h4, h5⟩ := hs
    refine .seq ?_
    refine .seq ?_
    refine run_reg ?_
    refine e_end ?_
    refine g_v1 (t := 5) (u := (.int .i64 i_4)) (.int .i64 i_4) h5 rfl rfl ?_
    refine g_v1 (t := 0) (u := (Enc.enc (l_1 : List Int))) (Enc.enc (l_1 : List Int)) h0 rfl rfl ?_
    refine g_v (.int .i64 (l_1.length : Int)) (ev_len (xs := l_1) rfl) ?_
    refine g_v2 (t1 := 6) (t2 := 8) (u1 := (.int .i64 i_4)) (u2 := (.int .i64 (l_1.length : Int))) (.bool (decide (i_4 < (l_1.length : Int)))) rfl rfl rfl rfl ?_
    refine g_end ?_
    refine e_end ?_
    refine renew [(0, (Enc.enc (l_1 : List Int))), (1, (.int .i64 n_2)), (4, (.bool false)), (5, (.int .i64 i_4)), (9, (.bool (decide (i_4 < (l_1.length : Int)))))] ⟨h0, h1, h4, h5, rfl⟩ ?_
    rintro s ⟨h0, h1, h4, h5, h9⟩
    refine .nsq ?_
    refine run_cond (t := decide (i_4 < (l_1.length : Int))) h9 h (fun h => ?_) (fun h => ?_)
    · refine .skip ?_
      refine .nsq ?_
      refine .seq ?_
      refine .block ?_
      refine .seq ?_
      refine run_reg ?_
      refine e_end ?_
      refine g_v1 (t := 0) (u := (Enc.enc (l_1 : List Int))) (Enc.enc (l_1 : List Int)) h0 rfl rfl ?_
      refine g_v1 (t := 5) (u := (.int .i64 i_4)) (.int .i64 i_4) h5 rfl rfl ?_
      obtain ⟨e_6, E_e_6, h⟩ := bind_some h
      refine g_v (.ref .sh 0 [] (.int .i64 e_6)) (ev_idx (t := .sh) (lo := 0) (xs := l_1) rfl rfl E_e_6 rfl rfl) ?_
      refine g_v1 (t := 14) (u := (.ref .sh 0 [] (.int .i64 e_6))) (.int .i64 e_6) rfl rfl rfl ?_
      refine g_v1 (t := 1) (u := (.int .i64 n_2)) (.int .i64 n_2) h1 rfl rfl ?_
      refine g_v2 (t1 := 15) (t2 := 16) (u1 := (.int .i64 e_6)) (u2 := (.int .i64 n_2)) (.bool (e_6 == n_2)) rfl rfl rfl rfl ?_
      refine g_end ?_
      refine e_end ?_
      refine renew [(0, (Enc.enc (l_1 : List Int))), (1, (.int .i64 n_2)), (4, (.bool false)), (5, (.int .i64 i_4)), (17, (.bool (e_6 == n_2)))] ⟨h0, h1, h4, h5, rfl⟩ ?_
      rintro s ⟨h0, h1, h4, h5, h17⟩
      refine .nsq ?_
      refine run_cond (t := (e_6 == n_2)) h17 h (fun h => ?_) (fun h => ?_)
      · refine .seq ?_
        refine run_reg ?_
        refine e_end ?_
        refine g_v0 (.bool true) rfl rfl ?_
        refine g_end ?_
        refine e_end ?_
        refine renew [(0, (Enc.enc (l_1 : List Int))), (1, (.int .i64 n_2)), (4, (.bool true)), (5, (.int .i64 i_4))] ⟨h0, h1, rfl, h5⟩ ?_
        rintro s ⟨h0, h1, h4, h5⟩
        refine .nsq ?_
        refine .ret ?_
        have hr := Option.some.inj h
        subst hr
        exact rrA (res_tmp h4) rfl
      · refine .skip ?_
        refine .nbk ?_
        refine .nsq ?_
        refine run_reg ?_
        refine e_end ?_
        refine g_v1 (t := 5) (u := (.int .i64 i_4)) (.int .i64 i_4) h5 rfl rfl ?_
        refine g_v1 (t := 10) (u := (.int .i64 i_4)) (.int .i64 (w64 (i_4 + 1))) rfl rfl rfl ?_
        refine g_v1 (t := 11) (u := (.int .i64 (w64 (i_4 + 1)))) (.int .i64 (w64 (i_4 + 1))) rfl rfl rfl ?_
        refine g_end ?_
        refine e_end ?_
        refine renew [(0, (Enc.enc (l_1 : List Int))), (1, (.int .i64 n_2)), (4, (.bool false)), (5, (.int .i64 (w64 (i_4 + 1))))] ⟨h0, h1, h4, rfl⟩ ?_
        rintro s ⟨h0, h1, h4, h5⟩
        refine .nlp ?_
        exact ih (w64 (i_4 + 1)) _ ⟨h0, h1, h4, h5⟩ h
    · refine .exit ?_
      refine .esq ?_
      refine .elp ?_
      refine .ebk ?_
      refine .nsq ?_
      refine .seq ?_
      refine run_reg ?_
      refine e_end ?_
      refine g_v0 (.bool false) rfl rfl ?_
      refine g_end ?_
      refine e_end ?_
      refine renew [(4, (.bool false))] rfl ?_
      rintro s h4
      refine .nsq ?_
      refine .ret ?_
      have hr := Option.some.inj h
      subst hr
      exact rrA (res_tmp h4) rfl
def s_l1Has (F : Nat) (l_1 : (List Int)) (n_2 : Int) : Option Bool :=
  s_l1Has_l1 F l_1 n_2 F 0
theorem t66 (H : H66 D σ F) (l_1 : (List Int)) (n_2 : Int) (s : Nat → V) (hs : Facts [(0, (Enc.enc (l_1 : List Int))), (1, (.int .i64 n_2))] s) (h : s_l1Has F l_1 n_2 = some r) : Run D σ (R66 r) (.run A66 []) s := by
  unfold s_l1Has at h
  obtain ⟨h0, h1⟩ := hs
  refine .seq ?_
  refine run_reg ?_
  refine e_end ?_
  refine g_v0 (.bool false) rfl rfl ?_
  refine g_end ?_
  refine e_end ?_
  refine renew [(0, (Enc.enc (l_1 : List Int))), (1, (.int .i64 n_2)), (4, (.bool false))] ⟨h0, h1, rfl⟩ ?_
  rintro s ⟨h0, h1, h4⟩
  refine .nsq ?_
  refine .seq ?_
  refine .seq ?_
  refine run_reg ?_
  refine e_end ?_
  refine g_v0 (.int .i64 0) rfl rfl ?_
  refine g_end ?_
  refine e_end ?_
  refine renew [(0, (Enc.enc (l_1 : List Int))), (1, (.int .i64 n_2)), (4, (.bool false)), (5, (.int .i64 0))] ⟨h0, h1, h4, rfl⟩ ?_
  rintro s ⟨h0, h1, h4, h5⟩
  refine .nsq ?_
  refine .block ?_
  refine .loop ?_
  exact t_f66_l1 H l_1 n_2 F 0 _ ⟨h0, h1, h4, h5⟩ h
end
def e66 (F : Nat) : Ent := ⟨66, dn2 (s_l1Has F) (fun (r : Bool) => (Enc.enc (r : Bool))), 0, false⟩
theorem o66 {D : Den} {σ : Sig} {F : Nat} (hF : Fits2 Try.prog D σ) (H : H66 D σ F) : (e66 F).Ok Try.prog := by
  refine ⟨fun args r h => ?_, ⟨Try.f66, Try.func66, rfl, rfl⟩⟩
  obtain ⟨x0, x1, y, rfl, hy, rfl⟩ := dn2_open h
  exact contract_run hF (by kernel_rfl) Try.func66 rfl c66 (show 2 ≤ Try.f66.ntmps by decide) (t66 H x0 x1 _ ⟨rfl, rfl⟩ hy)
/- loop.example/g01109/spec.l2Each -/
def A58_2 : AC := (AC.cond (O.t 9) AC.skip (AC.exit 0))
def A58_4 : AC := (AC.cond (O.t 15) (AC.seq (AC.reg [] [(I.mk (some 4) none false (X.v (A.mov (O.k (V.bool false)))))] []) AC.ret) AC.skip)
def A58_5 : AC := (AC.reg [] [(I.mk (some 10) none false (X.v (A.mov (O.t 5)))), (I.mk (some 11) none false (X.v (A.bin BinOp.add (O.t 10) (O.k (V.int IntKind.i64 (Int.ofNat 1)))))), (I.mk (some 5) none false (X.v (A.mov (O.t 11))))] [])
def A58_3 : AC := (AC.seq (AC.block 1 (AC.seq (AC.reg [] [(I.mk (some 12) none false (X.v (A.mov (O.t 1)))), (I.mk (some 13) none false (X.v (A.mov (O.t 5)))), (I.mk (some 14) none false (X.call (O.k (V.fn 66 [] [])) [(O.t 12), (O.t 13)])), (I.mk (some 15) none false (X.v (A.un UnOp.not (O.t 14))))] []) A58_4)) A58_5)
def A58_1 : AC := (AC.seq (AC.seq (AC.reg [] [(I.mk (some 6) none false (X.v (A.mov (O.t 5)))), (I.mk (some 7) none false (X.v (A.fld (O.t 2) 0 0))), (I.mk (some 8) none false (X.v (A.load Sh.s (O.t 7)))), (I.mk (some 9) none false (X.v (A.bin BinOp.lss (O.t 6) (O.t 8))))] []) A58_2) A58_3)
def A58_6 : AC := (AC.seq (AC.reg [] [(I.mk (some 16) none false (X.v (A.mov (O.t 1)))), (I.mk (some 17) none false (X.v (A.len (O.t 16)))), (I.mk (some 18) none false (X.v (A.fld (O.t 2) 0 0))), (I.mk (some 19) none false (X.v (A.load Sh.s (O.t 18)))), (I.mk (some 20) none false (X.v (A.bin BinOp.eql (O.t 17) (O.t 19)))), (I.mk (some 4) none false (X.v (A.mov (O.t 20))))] []) AC.ret)
def A58_8 : AC := (AC.block 0 (AC.loop A58_1))
def A58_7 : AC := (AC.seq (AC.seq (AC.reg [] [(I.mk (some 5) none false (X.v (A.mov (O.k (V.int IntKind.i64 (Int.ofNat 0))))))] []) A58_8) A58_6)
def A58 : AC := (AC.seq (AC.reg [.clr [2]] [(I.mk (some 2) none false (X.box (O.t 0))), (I.mk (some 4) none false (X.v (A.mov (O.k (V.bool false)))))] []) A58_7)
def an58 : List An := [{ id := 0, pre := [.clr [2]], ep := [] }]
theorem c58 : cC Try.prog Try.f58.ntmps an58 (Try.f58.body.getD .skip) = some A58 := by rfl
structure H58 (D : Den) (σ : Sig) (F : Nat) : Prop where
  c66 : ∀ x0 x1 r, s_l1Has F x0 x1 = some r → D 66 [Enc.enc x0, Enc.enc x1] = some (Enc.enc (r : Bool))
  g66 : σ 66 = some (0, false)
abbrev R58 (r : Bool) : (Nat → V) → Prop := RR Try.prog [.tmp 4] 0 false (Enc.enc (r : Bool))
section
variable {D : Den} {σ : Sig} {F : Nat} {r : Bool}
def s_l2Each_l1 (F : Nat) (to_2 : (List Int)) (g_1 : (Int × (List (Int × Int))))  : Nat → Int → Option Bool
  | 0, _ => none
  | k + 1, x_4 =>
    bif decide (x_4 < g_1.1) then
      (s_l1Has F to_2 x_4).bind fun r_6 =>
      bif (!r_6) then
        some false
      else
        (s_l2Each_l1 F to_2 g_1 k) (w64 (x_4 + 1))
    else
      some ((to_2.length : Int) == g_1.1)
theorem t_f58_l1 (H : H58 D σ F) (to_2 : (List Int)) (g_1 : (Int × (List (Int × Int))))  : ∀ (k : Nat) (x_4 : Int) (s : Nat → V), Facts [(1, (Enc.enc (to_2 : List Int))), (2, (.ref (.bx 2) 0 [] (.agg [(.int .i64 g_1.1), (Enc.enc (g_1.2 : List (Int × Int)))]))), (4, (.bool false)), (5, (.int .i64 x_4))] s → s_l2Each_l1 F to_2 g_1 k x_4 = some r → Run D σ (R58 r) (.run A58_1 [.lp A58_1, .bk 0, .sq A58_6]) s := by
  intro k
  induction k with
  | zero => intro x_4 s _ h; exact nomatch (h : (none : Option _) = some r)
  | succ k ih =>
    intro x_4 s hs h
    rw [s_l2Each_l1] at h
    obtain ⟨h1, h2, h4, h5⟩ := hs
    refine .seq ?_
    refine .seq ?_
    refine run_reg ?_
    refine e_end ?_
    refine g_v1 (t := 5) (u := (.int .i64 x_4)) (.int .i64 x_4) h5 rfl rfl ?_
    refine g_v1 (t := 2) (u := (.ref (.bx 2) 0 [] (.agg [(.int .i64 g_1.1), (Enc.enc (g_1.2 : List (Int × Int)))]))) (.ref (.bx 2) 0 [0] (.int .i64 g_1.1)) h2 rfl rfl ?_
    refine g_v1 (t := 7) (u := (.ref (.bx 2) 0 [0] (.int .i64 g_1.1))) (.int .i64 g_1.1) rfl rfl rfl ?_
    refine g_v2 (t1 := 6) (t2 := 8) (u1 := (.int .i64 x_4)) (u2 := (.int .i64 g_1.1)) (.bool (decide (x_4 < g_1.1))) rfl rfl rfl rfl ?_
    refine g_end ?_
    refine e_end ?_
    refine renew [(1, (Enc.enc (to_2 : List Int))), (2, (.ref (.bx 2) 0 [] (.agg [(.int .i64 g_1.1), (Enc.enc (g_1.2 : List (Int × Int)))]))), (4, (.bool false)), (5, (.int .i64 x_4)), (9, (.bool (decide (x_4 < g_1.1))))] ⟨h1, h2, h4, h5, rfl⟩ ?_
    rintro s ⟨h1, h2, h4, h5, h9⟩
    refine .nsq ?_
    refine run_cond (t := decide (x_4 < g_1.1)) h9 h (fun h => ?_) (fun h => ?_)
    · refine .skip ?_
      refine .nsq ?_
      refine .seq ?_
      refine .block ?_
      refine .seq ?_
      refine run_reg ?_
      refine e_end ?_
      refine g_v1 (t := 1) (u := (Enc.enc (to_2 : List Int))) (Enc.enc (to_2 : List Int)) h1 rfl rfl ?_
      refine g_v1 (t := 5) (u := (.int .i64 x_4)) (.int .i64 x_4) h5 rfl rfl ?_
      obtain ⟨r_6, E_r_6, h⟩ := bind_some h
      refine g_call (m := 0) (al := false) (r := (Enc.enc (r_6 : Bool))) [Enc.enc (to_2 : (List Int)), Enc.enc (x_4 : Int)] (ta_cons (v := (Enc.enc (to_2 : List Int))) rfl rfl (Enc.erase_enc (to_2 : (List Int))) (ta_cons (v := (.int .i64 x_4)) rfl rfl rfl ta_nil)) (H.c66 _ _ _ E_r_6) H.g66 rfl rfl rfl rfl ?_
      refine g_v1 (t := 14) (u := (.bool r_6)) (.bool (!r_6)) rfl rfl rfl ?_
      refine g_end ?_
      refine e_end ?_
      refine renew [(1, (Enc.enc (to_2 : List Int))), (2, (.ref (.bx 2) 0 [] (.agg [(.int .i64 g_1.1), (Enc.enc (g_1.2 : List (Int × Int)))]))), (4, (.bool false)), (5, (.int .i64 x_4)), (15, (.bool (!r_6)))] ⟨h1, h2, h4, h5, rfl⟩ ?_
      rintro s ⟨h1, h2, h4, h5, h15⟩
      refine .nsq ?_
      refine run_cond (t := (!r_6)) h15 h (fun h => ?_) (fun h => ?_)
      · refine .seq ?_
        refine run_reg ?_
        refine e_end ?_
        refine g_v0 (.bool false) rfl rfl ?_
        refine g_end ?_
        refine e_end ?_
        refine renew [(1, (Enc.enc (to_2 : List Int))), (2, (.ref (.bx 2) 0 [] (.agg [(.int .i64 g_1.1), (Enc.enc (g_1.2 : List (Int × Int)))]))), (4, (.bool false)), (5, (.int .i64 x_4))] ⟨h1, h2, rfl, h5⟩ ?_
        rintro s ⟨h1, h2, h4, h5⟩
        refine .nsq ?_
        refine .ret ?_
        have hr := Option.some.inj h
        subst hr
        exact rrA (res_tmp h4) rfl
      · refine .skip ?_
        refine .nbk ?_
        refine .nsq ?_
        refine run_reg ?_
        refine e_end ?_
        refine g_v1 (t := 5) (u := (.int .i64 x_4)) (.int .i64 x_4) h5 rfl rfl ?_
        refine g_v1 (t := 10) (u := (.int .i64 x_4)) (.int .i64 (w64 (x_4 + 1))) rfl rfl rfl ?_
        refine g_v1 (t := 11) (u := (.int .i64 (w64 (x_4 + 1)))) (.int .i64 (w64 (x_4 + 1))) rfl rfl rfl ?_
        refine g_end ?_
        refine e_end ?_
        refine renew [(1, (Enc.enc (to_2 : List Int))), (2, (.ref (.bx 2) 0 [] (.agg [(.int .i64 g_1.1), (Enc.enc (g_1.2 : List (Int × Int)))]))), (4, (.bool false)), (5, (.int .i64 (w64 (x_4 + 1))))] ⟨h1, h2, h4, rfl⟩ ?_
        rintro s ⟨h1, h2, h4, h5⟩
        refine .nlp ?_
        exact ih (w64 (x_4 + 1)) _ ⟨h1, h2, h4, h5⟩ h
    · refine .exit ?_
      refine .esq ?_
      refine .elp ?_
      refine .ebk ?_
      refine .nsq ?_
      refine .seq ?_
      refine run_reg ?_
      refine e_end ?_
      refine g_v1 (t := 1) (u := (Enc.enc (to_2 : List Int))) (Enc.enc (to_2 : List Int)) h1 rfl rfl ?_
      refine g_v (.int .i64 (to_2.length : Int)) (ev_len (xs := to_2) rfl) ?_
      refine g_v1 (t := 2) (u := (.ref (.bx 2) 0 [] (.agg [(.int .i64 g_1.1), (Enc.enc (g_1.2 : List (Int × Int)))]))) (.ref (.bx 2) 0 [0] (.int .i64 g_1.1)) h2 rfl rfl ?_
      refine g_v1 (t := 18) (u := (.ref (.bx 2) 0 [0] (.int .i64 g_1.1))) (.int .i64 g_1.1) rfl rfl rfl ?_
      refine g_v2 (t1 := 17) (t2 := 19) (u1 := (.int .i64 (to_2.length : Int))) (u2 := (.int .i64 g_1.1)) (.bool ((to_2.length : Int) == g_1.1)) rfl rfl rfl rfl ?_
      refine g_v1 (t := 20) (u := (.bool ((to_2.length : Int) == g_1.1))) (.bool ((to_2.length : Int) == g_1.1)) rfl rfl rfl ?_
      refine g_end ?_
      refine e_end ?_
      refine renew [(4, (.bool ((to_2.length : Int) == g_1.1)))] rfl ?_
      rintro s h4
      refine .nsq ?_
      refine .ret ?_
      have hr := Option.some.inj h
      subst hr
      exact rrA (res_tmp h4) rfl
def s_l2Each (F : Nat) (g_1 : (Int × (List (Int × Int)))) (to_2 : (List Int)) : Option Bool :=
  s_l2Each_l1 F to_2 g_1 F 0
theorem t58 (H : H58 D σ F) (g_1 : (Int × (List (Int × Int)))) (to_2 : (List Int)) (s : Nat → V) (hs : Facts [(0, (.agg [(.int .i64 g_1.1), (Enc.enc (g_1.2 : List (Int × Int)))])), (1, (Enc.enc (to_2 : List Int)))] s) (h : s_l2Each F g_1 to_2 = some r) : Run D σ (R58 r) (.run A58 []) s := by
  unfold s_l2Each at h
  obtain ⟨h0, h1⟩ := hs
  refine .seq ?_
  refine run_reg ?_
  refine e_clr ?_
  refine e_end ?_
  refine g_box (.agg [(.int .i64 g_1.1), (Enc.enc (g_1.2 : List (Int × Int)))]) (rd_of (keep_clear (s := s) (pk := [2]) h0 rfl (map_agg (maps_cons rfl (maps_cons (Enc.map_enc _ (g_1.2 : List (Int × Int))) maps_nil)))) rfl) (gone_clear (s := s) (pk := [2]) (t := 2) rfl) rfl ?_
  refine g_v0 (.bool false) rfl rfl ?_
  refine g_end ?_
  refine e_end ?_
  refine renew [(1, (Enc.enc (to_2 : List Int))), (2, (.ref (.bx 2) 0 [] (.agg [(.int .i64 g_1.1), (Enc.enc (g_1.2 : List (Int × Int)))]))), (4, (.bool false))] ⟨(keep_clear (s := s) (pk := [2]) h1 rfl (Enc.map_enc _ (to_2 : List Int))), rfl, rfl⟩ ?_
  rintro s ⟨h1, h2, h4⟩
  refine .nsq ?_
  refine .seq ?_
  refine .seq ?_
  refine run_reg ?_
  refine e_end ?_
  refine g_v0 (.int .i64 0) rfl rfl ?_
  refine g_end ?_
  refine e_end ?_
  refine renew [(1, (Enc.enc (to_2 : List Int))), (2, (.ref (.bx 2) 0 [] (.agg [(.int .i64 g_1.1), (Enc.enc (g_1.2 : List (Int × Int)))]))), (4, (.bool false)), (5, (.int .i64 0))] ⟨h1, h2, h4, rfl⟩ ?_
  rintro s ⟨h1, h2, h4, h5⟩
  refine .nsq ?_
  refine .block ?_
  refine .loop ?_
  exact t_f58_l1 H to_2 g_1 F 0 _ ⟨h1, h2, h4, h5⟩ h
end
def e58 (F : Nat) : Ent := ⟨58, dn2 (s_l2Each F) (fun (r : Bool) => (Enc.enc (r : Bool))), 0, false⟩
theorem o58 {D : Den} {σ : Sig} {F : Nat} (hF : Fits2 Try.prog D σ) (H : H58 D σ F) : (e58 F).Ok Try.prog := by
  refine ⟨fun args r h => ?_, ⟨Try.f58, Try.func58, rfl, rfl⟩⟩
  obtain ⟨x0, x1, y, rfl, hy, rfl⟩ := dn2_open h
  exact contract_run hF (by kernel_rfl) Try.func58 rfl c58 (show 2 ≤ Try.f58.ntmps by decide) (t58 H x0 x1 _ ⟨rfl, rfl⟩ hy)
/- loop.example/g01109/spec.l7Order -/
def A38_1 : AC := (AC.seq (AC.reg [] [(I.mk (some 5) none false (X.v (A.load (Sh.ag [Sh.s, Sh.p]) (O.t 2)))), (I.mk (some 6) none false (X.call (O.k (V.fn 30 [] [])) [(O.t 5)])), (I.mk (some 7) none false (X.v (A.mov (O.t 6)))), (I.mk (some 8) (some (7, true)) false (X.v (A.load (Sh.ag [Sh.s, Sh.p]) (O.t 2)))), (I.mk (some 9) (some (7, true)) false (X.v (A.mov (O.t 1)))), (I.mk (some 10) (some (7, true)) false (X.call (O.k (V.fn 58 [] [])) [(O.t 8), (O.t 9)])), (I.mk (some 11) none false (X.v (A.pick (O.t 7) (O.t 10) (O.k (V.bool false))))), (I.mk (some 4) none false (X.v (A.mov (O.t 11))))] []) AC.ret)
def A38 : AC := (AC.seq (AC.reg [.clr [2]] [(I.mk (some 2) none false (X.box (O.t 0))), (I.mk (some 4) none false (X.v (A.mov (O.k (V.bool false)))))] []) A38_1)
def an38 : List An := [{ id := 0, pre := [.clr [2]], ep := [] }]
theorem c38 : cC Try.prog Try.f38.ntmps an38 (Try.f38.body.getD .skip) = some A38 := by rfl
structure H38 (D : Den) (σ : Sig) (F : Nat) : Prop where
  c30 : ∀ x0 r, s_l2Good F x0 = some r → D 30 [Enc.enc x0] = some (Enc.enc (r : Bool))
  g30 : σ 30 = some (0, false)
  c58 : ∀ x0 x1 r, s_l2Each F x0 x1 = some r → D 58 [Enc.enc x0, Enc.enc x1] = some (Enc.enc (r : Bool))
  g58 : σ 58 = some (0, false)
abbrev R38 (r : Bool) : (Nat → V) → Prop := RR Try.prog [.tmp 4] 0 false (Enc.enc (r : Bool))
section
variable {D : Den} {σ : Sig} {F : Nat} {r : Bool}
def s_l7Order (F : Nat) (g_1 : (Int × (List (Int × Int)))) (order_2 : (List Int)) : Option Bool :=
  (s_l2Good F g_1).bind fun r_3 =>
  bif r_3 then
    (s_l2Each F g_1 order_2).bind fun r_4 =>
    some r_4
  else
    some false
theorem t38 (H : H38 D σ F) (g_1 : (Int × (List (Int × Int)))) (order_2 : (List Int)) (s : Nat → V) (hs : Facts [(0, (.agg [(.int .i64 g_1.1), (Enc.enc (g_1.2 : List (Int × Int)))])), (1, (Enc.enc (order_2 : List Int)))] s) (h : s_l7Order F g_1 order_2 = some r) : Run D σ (R38 r) (.run A38 []) s := by
  unfold s_l7Order at h
  obtain ⟨h0, h1⟩ := hs
  refine .seq ?_
  refine run_reg ?_
  refine e_clr ?_
  refine e_end ?_
  refine g_box (.agg [(.int .i64 g_1.1), (Enc.enc (g_1.2 : List (Int × Int)))]) (rd_of (keep_clear (s := s) (pk := [2]) h0 rfl (map_agg (maps_cons rfl (maps_cons (Enc.map_enc _ (g_1.2 : List (Int × Int))) maps_nil)))) rfl) (gone_clear (s := s) (pk := [2]) (t := 2) rfl) rfl ?_
  refine g_v0 (.bool false) rfl rfl ?_
  refine g_end ?_
  refine e_end ?_
  refine renew [(1, (Enc.enc (order_2 : List Int))), (2, (.ref (.bx 2) 0 [] (.agg [(.int .i64 g_1.1), (Enc.enc (g_1.2 : List (Int × Int)))]))), (4, (.bool false))] ⟨(keep_clear (s := s) (pk := [2]) h1 rfl (Enc.map_enc _ (order_2 : List Int))), rfl, rfl⟩ ?_
  rintro s ⟨h1, h2, h4⟩
  refine .nsq ?_
  refine .seq ?_
  refine run_reg ?_
  refine e_end ?_
  refine g_v1 (t := 2) (u := (.ref (.bx 2) 0 [] (.agg [(.int .i64 g_1.1), (Enc.enc (g_1.2 : List (Int × Int)))]))) (.agg [(.int .i64 g_1.1), (Enc.enc (g_1.2 : List (Int × Int)))]) h2 rfl rfl ?_
  obtain ⟨r_3, E_r_3, h⟩ := bind_some h
  refine g_call (m := 0) (al := false) (r := (Enc.enc (r_3 : Bool))) [Enc.enc (g_1 : (Int × (List (Int × Int))))] (ta_cons (v := (.agg [(.int .i64 g_1.1), (Enc.enc (g_1.2 : List (Int × Int)))])) rfl rfl (Enc.erase_enc (g_1 : (Int × (List (Int × Int))))) ta_nil) (H.c30 _ _ E_r_3) H.g30 rfl rfl rfl rfl ?_
  refine g_v1 (t := 6) (u := (.bool r_3)) (.bool r_3) rfl rfl rfl ?_
  refine split_on (c := r_3) h (fun hg3 h => ?_) (fun hg3 h => ?_)
  · refine g_yes (Eq.trans (b := .bool r_3) rfl (congrArg V.bool hg3)) (g_v1 (t := 2) (u := (.ref (.bx 2) 0 [] (.agg [(.int .i64 g_1.1), (Enc.enc (g_1.2 : List (Int × Int)))]))) (.agg [(.int .i64 g_1.1), (Enc.enc (g_1.2 : List (Int × Int)))]) h2 rfl rfl ?_)
    refine g_yes (Eq.trans (b := .bool r_3) rfl (congrArg V.bool hg3)) (g_v1 (t := 1) (u := (Enc.enc (order_2 : List Int))) (Enc.enc (order_2 : List Int)) h1 rfl rfl ?_)
    obtain ⟨r_4, E_r_4, h⟩ := bind_some h
    refine g_yes (Eq.trans (b := .bool r_3) rfl (congrArg V.bool hg3)) (g_call (m := 0) (al := false) (r := (Enc.enc (r_4 : Bool))) [Enc.enc (g_1 : (Int × (List (Int × Int)))), Enc.enc (order_2 : (List Int))] (ta_cons (v := (.agg [(.int .i64 g_1.1), (Enc.enc (g_1.2 : List (Int × Int)))])) rfl rfl (Enc.erase_enc (g_1 : (Int × (List (Int × Int))))) (ta_cons (v := (Enc.enc (order_2 : List Int))) rfl rfl (Enc.erase_enc (order_2 : (List Int))) ta_nil)) (H.c58 _ _ _ E_r_4) H.g58 rfl rfl rfl rfl ?_)
    refine g_v2 (t1 := 7) (t2 := 10) (u1 := (.bool true)) (u2 := (.bool r_4)) (.bool r_4) (Eq.trans (b := .bool r_3) rfl (congrArg V.bool hg3)) rfl rfl rfl ?_
    refine g_v1 (t := 11) (u := (.bool r_4)) (.bool r_4) rfl rfl rfl ?_
    refine g_end ?_
    refine e_end ?_
    refine renew [(4, (.bool r_4))] rfl ?_
    rintro s h4
    refine .nsq ?_
    refine .ret ?_
    have hr := Option.some.inj h
    subst hr
    exact rrA (res_tmp h4) rfl
  · refine g_no (Eq.trans (b := .bool r_3) rfl (congrArg V.bool hg3)) ?_
    refine g_no (Eq.trans (b := .bool r_3) rfl (congrArg V.bool hg3)) ?_
    refine g_no (Eq.trans (b := .bool r_3) rfl (congrArg V.bool hg3)) ?_
    refine g_v2 (t1 := 7) (t2 := 10) (u1 := (.bool false)) (u2 := (.tup [])) (.bool false) (Eq.trans (b := .bool r_3) rfl (congrArg V.bool hg3)) rfl rfl rfl ?_
    refine g_v1 (t := 11) (u := (.bool false)) (.bool false) rfl rfl rfl ?_
    refine g_end ?_
    refine e_end ?_
    refine renew [(4, (.bool false))] rfl ?_
    rintro s h4
    refine .nsq ?_
    refine .ret ?_
    have hr := Option.some.inj h
    subst hr
    exact rrA (res_tmp h4) rfl
end
def e38 (F : Nat) : Ent := ⟨38, dn2 (s_l7Order F) (fun (r : Bool) => (Enc.enc (r : Bool))), 0, false⟩
theorem o38 {D : Den} {σ : Sig} {F : Nat} (hF : Fits2 Try.prog D σ) (H : H38 D σ F) : (e38 F).Ok Try.prog := by
  refine ⟨fun args r h => ?_, ⟨Try.f38, Try.func38, rfl, rfl⟩⟩
  obtain ⟨x0, x1, y, rfl, hy, rfl⟩ := dn2_open h
  exact contract_run hF (by kernel_rfl) Try.func38 rfl c38 (show 2 ≤ Try.f38.ntmps by decide) (t38 H x0 x1 _ ⟨rfl, rfl⟩ hy)
/- loop.example/g01109/spec.l7Place -/
def A67_2 : AC := (AC.cond (O.t 11) AC.skip (AC.exit 0))
def A67_3 : AC := (AC.block 1 (AC.reg [] [(I.mk (some 12) none false (X.v (A.mov (O.t 5)))), (I.mk (some 13) none false (X.v (A.bin BinOp.add (O.t 12) (O.k (V.int IntKind.i64 (Int.ofNat 1)))))), (I.mk (some 5) none false (X.v (A.mov (O.t 13))))] []))
def A67_1 : AC := (AC.seq (AC.seq (AC.reg [] [(I.mk (some 6) none false (X.v (A.mov (O.t 0)))), (I.mk (some 7) none false (X.v (A.mov (O.t 5)))), (I.mk (some 8) none false (X.v (A.idx (O.t 6) (O.t 7) 1))), (I.mk (some 9) none false (X.v (A.load Sh.s (O.t 8)))), (I.mk (some 10) none false (X.v (A.mov (O.t 1)))), (I.mk (some 11) none false (X.v (A.bin BinOp.neq (O.t 9) (O.t 10))))] []) A67_2) A67_3)
def A67_4 : AC := (AC.seq (AC.reg [] [(I.mk (some 14) none false (X.v (A.mov (O.t 5)))), (I.mk (some 4) none false (X.v (A.mov (O.t 14))))] []) AC.ret)
def A67_6 : AC := (AC.seq (AC.block 0 (AC.loop A67_1)) A67_4)
def A67_5 : AC := (AC.seq (AC.reg [] [(I.mk (some 5) none false (X.v (A.mov (O.k (V.int IntKind.i64 (Int.ofNat 0))))))] []) A67_6)
def A67 : AC := (AC.seq (AC.reg [] [(I.mk (some 4) none false (X.v (A.mov (O.k (V.int IntKind.i64 (Int.ofNat 0))))))] []) A67_5)
def an67 : List An := []
theorem c67 : cC Try.prog Try.f67.ntmps an67 (Try.f67.body.getD .skip) = some A67 := by rfl
structure H67 (D : Den) (σ : Sig) (F : Nat) : Prop where
  mk ::
abbrev R67 (r : Int) : (Nat → V) → Prop := RR Try.prog [.tmp 4] 0 false (Enc.enc (r : Int))
section
variable {D : Den} {σ : Sig} {F : Nat} {r : Int}
def s_l7Place_l1 (F : Nat) (order_1 : (List Int)) (x_2 : Int)  : Nat → Int → Option Int
  | 0, _ => none
  | k + 1, at_4 =>
    (idx order_1 at_4).bind fun e_6 =>
    bif (e_6 != x_2) then
      (s_l7Place_l1 F order_1 x_2 k) (w64 (at_4 + 1))
    else
      some at_4
theorem t_f67_l1 (H : H67 D σ F) (order_1 : (List Int)) (x_2 : Int)  : ∀ (k : Nat) (at_4 : Int) (s : Nat → V), Facts [(0, (Enc.enc (order_1 : List Int))), (1, (.int .i64 x_2)), (4, (.int .i64 0)), (5, (.int .i64 at_4))] s → s_l7Place_l1 F order_1 x_2 k at_4 = some r → Run D σ (R67 r) (.run A67_1 [.lp A67_1, .bk 0, .sq A67_4]) s := by
  intro k
  induction k with
  | zero => intro at_4 s _ h; exact nomatch (h : (none : Option _) = some r)
  | succ k ih =>
    intro at_4 s hs h
    rw [s_l7Place_l1] at h
    obtain ⟨h0, h1, h4, h5⟩ := hs
    refine .seq ?_
    refine .seq ?_
    refine run_reg ?_
    refine e_end ?_
    refine g_v1 (t := 0) (u := (Enc.enc (order_1 : List Int))) (Enc.enc (order_1 : List Int)) h0 rfl rfl ?_
    refine g_v1 (t := 5) (u := (.int .i64 at_4)) (.int .i64 at_4) h5 rfl rfl ?_
    obtain ⟨e_6, E_e_6, h⟩ := bind_some h
    refine g_v (.ref .sh 0 [] (.int .i64 e_6)) (ev_idx (t := .sh) (lo := 0) (xs := order_1) rfl rfl E_e_6 rfl rfl) ?_
    refine g_v1 (t := 8) (u := (.ref .sh 0 [] (.int .i64 e_6))) (.int .i64 e_6) rfl rfl rfl ?_
    refine g_v1 (t := 1) (u := (.int .i64 x_2)) (.int .i64 x_2) h1 rfl rfl ?_
    refine g_v2 (t1 := 9) (t2 := 10) (u1 := (.int .i64 e_6)) (u2 := (.int .i64 x_2)) (.bool (e_6 != x_2)) rfl rfl rfl rfl ?_
    refine g_end ?_
    refine e_end ?_
    refine renew [(0, (Enc.enc (order_1 : List Int))), (1, (.int .i64 x_2)), (4, (.int .i64 0)), (5, (.int .i64 at_4)), (11, (.bool (e_6 != x_2)))] ⟨h0, h1, h4, h5, rfl⟩ ?_
    rintro s ⟨h0, h1, h4, h5, h11⟩
    refine .nsq ?_
    refine run_cond (t := (e_6 != x_2)) h11 h (fun h => ?_) (fun h => ?_)
    · refine .skip ?_
      refine .nsq ?_
      refine .block ?_
      refine run_reg ?_
      refine e_end ?_
      refine g_v1 (t := 5) (u := (.int .i64 at_4)) (.int .i64 at_4) h5 rfl rfl ?_
      refine g_v1 (t := 12) (u := (.int .i64 at_4)) (.int .i64 (w64 (at_4 + 1))) rfl rfl rfl ?_
      refine g_v1 (t := 13) (u := (.int .i64 (w64 (at_4 + 1)))) (.int .i64 (w64 (at_4 + 1))) rfl rfl rfl ?_
      refine g_end ?_
      refine e_end ?_
      refine renew [(0, (Enc.enc (order_1 : List Int))), (1, (.int .i64 x_2)), (4, (.int .i64 0)), (5, (.int .i64 (w64 (at_4 + 1))))] ⟨h0, h1, h4, rfl⟩ ?_
      rintro s ⟨h0, h1, h4, h5⟩
      refine .nbk ?_
      refine .nlp ?_
      exact ih (w64 (at_4 + 1)) _ ⟨h0, h1, h4, h5⟩ h
    · refine .exit ?_
      refine .esq ?_
      refine .elp ?_
      refine .ebk ?_
      refine .nsq ?_
      refine .seq ?_
      refine run_reg ?_
      refine e_end ?_
      refine g_v1 (t := 5) (u := (.int .i64 at_4)) (.int .i64 at_4) h5 rfl rfl ?_
      refine g_v1 (t := 14) (u := (.int .i64 at_4)) (.int .i64 at_4) rfl rfl rfl ?_
      refine g_end ?_
      refine e_end ?_
      refine renew [(4, (.int .i64 at_4))] rfl ?_
      rintro s h4
      refine .nsq ?_
      refine .ret ?_
      have hr := Option.some.inj h
      subst hr
      exact rrA (res_tmp h4) rfl
def s_l7Place (F : Nat) (order_1 : (List Int)) (x_2 : Int) : Option Int :=
  s_l7Place_l1 F order_1 x_2 F 0
theorem t67 (H : H67 D σ F) (order_1 : (List Int)) (x_2 : Int) (s : Nat → V) (hs : Facts [(0, (Enc.enc (order_1 : List Int))), (1, (.int .i64 x_2))] s) (h : s_l7Place F order_1 x_2 = some r) : Run D σ (R67 r) (.run A67 []) s := by
  unfold s_l7Place at h
  obtain ⟨h0, h1⟩ := hs
  refine .seq ?_
  refine run_reg ?_
  refine e_end ?_
  refine g_v0 (.int .i64 0) rfl rfl ?_
  refine g_end ?_
  refine e_end ?_
  refine renew [(0, (Enc.enc (order_1 : List Int))), (1, (.int .i64 x_2)), (4, (.int .i64 0))] ⟨h0, h1, rfl⟩ ?_
  rintro s ⟨h0, h1, h4⟩
  refine .nsq ?_
  refine .seq ?_
  refine run_reg ?_
  refine e_end ?_
  refine g_v0 (.int .i64 0) rfl rfl ?_
  refine g_end ?_
  refine e_end ?_
  refine renew [(0, (Enc.enc (order_1 : List Int))), (1, (.int .i64 x_2)), (4, (.int .i64 0)), (5, (.int .i64 0))] ⟨h0, h1, h4, rfl⟩ ?_
  rintro s ⟨h0, h1, h4, h5⟩
  refine .nsq ?_
  refine .seq ?_
  refine .block ?_
  refine .loop ?_
  exact t_f67_l1 H order_1 x_2 F 0 _ ⟨h0, h1, h4, h5⟩ h
end
def e67 (F : Nat) : Ent := ⟨67, dn2 (s_l7Place F) (fun (r : Int) => (Enc.enc (r : Int))), 0, false⟩
theorem o67 {D : Den} {σ : Sig} {F : Nat} (hF : Fits2 Try.prog D σ) (H : H67 D σ F) : (e67 F).Ok Try.prog := by
  refine ⟨fun args r h => ?_, ⟨Try.f67, Try.func67, rfl, rfl⟩⟩
  obtain ⟨x0, x1, y, rfl, hy, rfl⟩ := dn2_open h
  exact contract_run hF (by kernel_rfl) Try.func67 rfl c67 (show 2 ≤ Try.f67.ntmps by decide) (t67 H x0 x1 _ ⟨rfl, rfl⟩ hy)
/- loop.example/g01109/spec.l1Most -/
def A45_2 : AC := (AC.cond (O.t 7) (AC.seq (AC.reg [] [(I.mk (some 8) none false (X.v (A.mov (O.t 0)))), (I.mk (some 4) none false (X.v (A.mov (O.t 8))))] []) AC.ret) AC.skip)
def A45_3 : AC := (AC.seq (AC.reg [] [(I.mk (some 9) none false (X.v (A.mov (O.t 1)))), (I.mk (some 4) none false (X.v (A.mov (O.t 9))))] []) AC.ret)
def A45_1 : AC := (AC.seq (AC.seq (AC.reg [] [(I.mk (some 5) none false (X.v (A.mov (O.t 0)))), (I.mk (some 6) none false (X.v (A.mov (O.t 1)))), (I.mk (some 7) none false (X.v (A.bin BinOp.gtr (O.t 5) (O.t 6))))] []) A45_2) A45_3)
def A45 : AC := (AC.seq (AC.reg [] [(I.mk (some 4) none false (X.v (A.mov (O.k (V.int IntKind.i64 (Int.ofNat 0))))))] []) A45_1)
def an45 : List An := []
theorem c45 : cC Try.prog Try.f45.ntmps an45 (Try.f45.body.getD .skip) = some A45 := by rfl
structure H45 (D : Den) (σ : Sig) (F : Nat) : Prop where
  mk ::
abbrev R45 (r : Int) : (Nat → V) → Prop := RR Try.prog [.tmp 4] 0 false (Enc.enc (r : Int))
section
variable {D : Den} {σ : Sig} {F : Nat} {r : Int}
def s_l1Most (F : Nat) (a_1 : Int) (b_2 : Int) : Option Int :=
  bif decide (a_1 > b_2) then
    some a_1
  else
    some b_2
theorem t45 (H : H45 D σ F) (a_1 : Int) (b_2 : Int) (s : Nat → V) (hs : Facts [(0, (.int .i64 a_1)), (1, (.int .i64 b_2))] s) (h : s_l1Most F a_1 b_2 = some r) : Run D σ (R45 r) (.run A45 []) s := by
  unfold s_l1Most at h
  obtain ⟨h0, h1⟩ := hs
  refine .seq ?_
  refine run_reg ?_
  refine e_end ?_
  refine g_v0 (.int .i64 0) rfl rfl ?_
  refine g_end ?_
  refine e_end ?_
  refine renew [(0, (.int .i64 a_1)), (1, (.int .i64 b_2)), (4, (.int .i64 0))] ⟨h0, h1, rfl⟩ ?_
  rintro s ⟨h0, h1, h4⟩
  refine .nsq ?_
  refine .seq ?_
  refine .seq ?_
  refine run_reg ?_
  refine e_end ?_
  refine g_v1 (t := 0) (u := (.int .i64 a_1)) (.int .i64 a_1) h0 rfl rfl ?_
  refine g_v1 (t := 1) (u := (.int .i64 b_2)) (.int .i64 b_2) h1 rfl rfl ?_
  refine g_v2 (t1 := 5) (t2 := 6) (u1 := (.int .i64 a_1)) (u2 := (.int .i64 b_2)) (.bool (decide (a_1 > b_2))) rfl rfl rfl rfl ?_
  refine g_end ?_
  refine e_end ?_
  refine renew [(0, (.int .i64 a_1)), (1, (.int .i64 b_2)), (4, (.int .i64 0)), (7, (.bool (decide (a_1 > b_2))))] ⟨h0, h1, h4, rfl⟩ ?_
  rintro s ⟨h0, h1, h4, h7⟩
  refine .nsq ?_
  refine run_cond (t := decide (a_1 > b_2)) h7 h (fun h => ?_) (fun h => ?_)
  · refine .seq ?_
    refine run_reg ?_
    refine e_end ?_
    refine g_v1 (t := 0) (u := (.int .i64 a_1)) (.int .i64 a_1) h0 rfl rfl ?_
    refine g_v1 (t := 8) (u := (.int .i64 a_1)) (.int .i64 a_1) rfl rfl rfl ?_
    refine g_end ?_
    refine e_end ?_
    refine renew [(1, (.int .i64 b_2)), (4, (.int .i64 a_1))] ⟨h1, rfl⟩ ?_
    rintro s ⟨h1, h4⟩
    refine .nsq ?_
    refine .ret ?_
    have hr := Option.some.inj h
    subst hr
    exact rrA (res_tmp h4) rfl
  · refine .skip ?_
    refine .nsq ?_
    refine .seq ?_
    refine run_reg ?_
    refine e_end ?_
    refine g_v1 (t := 1) (u := (.int .i64 b_2)) (.int .i64 b_2) h1 rfl rfl ?_
    refine g_v1 (t := 9) (u := (.int .i64 b_2)) (.int .i64 b_2) rfl rfl rfl ?_
    refine g_end ?_
    refine e_end ?_
    refine renew [(4, (.int .i64 b_2))] rfl ?_
    rintro s h4
    refine .nsq ?_
    refine .ret ?_
    have hr := Option.some.inj h
    subst hr
    exact rrA (res_tmp h4) rfl
end
def e45 (F : Nat) : Ent := ⟨45, dn2 (s_l1Most F) (fun (r : Int) => (Enc.enc (r : Int))), 0, false⟩
theorem o45 {D : Den} {σ : Sig} {F : Nat} (hF : Fits2 Try.prog D σ) (H : H45 D σ F) : (e45 F).Ok Try.prog := by
  refine ⟨fun args r h => ?_, ⟨Try.f45, Try.func45, rfl, rfl⟩⟩
  obtain ⟨x0, x1, y, rfl, hy, rfl⟩ := dn2_open h
  exact contract_run hF (by kernel_rfl) Try.func45 rfl c45 (show 2 ≤ Try.f45.ntmps by decide) (t45 H x0 x1 _ ⟨rfl, rfl⟩ hy)
/- loop.example/g01109/spec.l7Band -/
def A39_2 : AC := (AC.cond (O.t 13) AC.skip (AC.exit 0))
def A39_4 : AC := (AC.reg [] [(I.mk (some 32) none false (X.v (A.mov (O.t 5)))), (I.mk (some 33) none false (X.v (A.mov (O.t 7)))), (I.mk (some 34) none false (X.v (A.mov (O.t 8)))), (I.mk (some 35) none false (X.v (A.bin BinOp.sub (O.t 33) (O.t 34)))), (I.mk (some 36) none false (X.v (A.mov (O.t 8)))), (I.mk (some 37) none false (X.v (A.mov (O.t 7)))), (I.mk (some 38) none false (X.v (A.bin BinOp.sub (O.t 36) (O.t 37)))), (I.mk (some 39) none false (X.call (O.k (V.fn 45 [] [])) [(O.t 35), (O.t 38)])), (I.mk (some 40) none false (X.call (O.k (V.fn 45 [] [])) [(O.t 32), (O.t 39)])), (I.mk (some 5) none false (X.v (A.mov (O.t 40))))] [])
def A39_5 : AC := (AC.reg [] [(I.mk (some 14) none false (X.v (A.mov (O.t 6)))), (I.mk (some 15) none false (X.v (A.bin BinOp.add (O.t 14) (O.k (V.int IntKind.i64 (Int.ofNat 1)))))), (I.mk (some 6) none false (X.v (A.mov (O.t 15))))] [])
def A39_3 : AC := (AC.seq (AC.block 1 (AC.seq (AC.reg [] [(I.mk (some 16) none false (X.v (A.mov (O.t 1)))), (I.mk (some 17) none false (X.v (A.fld (O.t 2) 1 1))), (I.mk (some 18) none false (X.v (A.load Sh.p (O.t 17)))), (I.mk (some 19) none false (X.v (A.mov (O.t 6)))), (I.mk (some 20) none false (X.v (A.idx (O.t 18) (O.t 19) 2))), (I.mk (some 21) none false (X.v (A.idxA (O.t 20) (O.k (V.int IntKind.i64 (Int.ofNat 0))) 2 1))), (I.mk (some 22) none false (X.v (A.load Sh.s (O.t 21)))), (I.mk (some 23) none false (X.call (O.k (V.fn 67 [] [])) [(O.t 16), (O.t 22)])), (I.mk (some 24) none false (X.v (A.mov (O.t 1)))), (I.mk (some 25) none false (X.v (A.fld (O.t 2) 1 1))), (I.mk (some 26) none false (X.v (A.load Sh.p (O.t 25)))), (I.mk (some 27) none false (X.v (A.mov (O.t 6)))), (I.mk (some 28) none false (X.v (A.idx (O.t 26) (O.t 27) 2))), (I.mk (some 29) none false (X.v (A.idxA (O.t 28) (O.k (V.int IntKind.i64 (Int.ofNat 1))) 2 1))), (I.mk (some 30) none false (X.v (A.load Sh.s (O.t 29)))), (I.mk (some 31) none false (X.call (O.k (V.fn 67 [] [])) [(O.t 24), (O.t 30)])), (I.mk (some 7) none false (X.v (A.mov (O.t 23)))), (I.mk (some 8) none false (X.v (A.mov (O.t 31))))] []) A39_4)) A39_5)
def A39_1 : AC := (AC.seq (AC.seq (AC.reg [] [(I.mk (some 9) none false (X.v (A.mov (O.t 6)))), (I.mk (some 10) none false (X.v (A.fld (O.t 2) 1 1))), (I.mk (some 11) none false (X.v (A.load Sh.p (O.t 10)))), (I.mk (some 12) none false (X.v (A.len (O.t 11)))), (I.mk (some 13) none false (X.v (A.bin BinOp.lss (O.t 9) (O.t 12))))] []) A39_2) A39_3)
def A39_6 : AC := (AC.seq (AC.reg [] [(I.mk (some 41) none false (X.v (A.mov (O.t 5)))), (I.mk (some 4) none false (X.v (A.mov (O.t 41))))] []) AC.ret)
def A39_9 : AC := (AC.block 0 (AC.loop A39_1))
def A39_8 : AC := (AC.seq (AC.seq (AC.reg [] [(I.mk (some 6) none false (X.v (A.mov (O.k (V.int IntKind.i64 (Int.ofNat 0))))))] []) A39_9) A39_6)
def A39_7 : AC := (AC.seq (AC.reg [] [(I.mk (some 5) none false (X.v (A.mov (O.k (V.int IntKind.i64 (Int.ofNat 0))))))] []) A39_8)
def A39 : AC := (AC.seq (AC.reg [.clr [2]] [(I.mk (some 2) none false (X.box (O.t 0))), (I.mk (some 4) none false (X.v (A.mov (O.k (V.int IntKind.i64 (Int.ofNat 0))))))] []) A39_7)
def an39 : List An := [{ id := 0, pre := [.clr [2]], ep := [] }]
theorem c39 : cC Try.prog Try.f39.ntmps an39 (Try.f39.body.getD .skip) = some A39 := by rfl
structure H39 (D : Den) (σ : Sig) (F : Nat) : Prop where
  c67 : ∀ x0 x1 r, s_l7Place F x0 x1 = some r → D 67 [Enc.enc x0, Enc.enc x1] = some (Enc.enc (r : Int))
  g67 : σ 67 = some (0, false)
  c45 : ∀ x0 x1 r, s_l1Most F x0 x1 = some r → D 45 [Enc.enc x0, Enc.enc x1] = some (Enc.enc (r : Int))
  g45 : σ 45 = some (0, false)
abbrev R39 (r : Int) : (Nat → V) → Prop := RR Try.prog [.tmp 4] 0 false (Enc.enc (r : Int))
section
variable {D : Den} {σ : Sig} {F : Nat} {r : Int}
def s_l7Band_l1 (F : Nat) (order_2 : (List Int)) (g_1 : (Int × (List (Int × Int))))  : Nat → Int → Int → Option Int
  | 0, _, _ => none
  | k + 1, most_9, i_10 =>
    bif decide (i_10 < (g_1.2.length : Int)) then
      (idx g_1.2 i_10).bind fun e_17 =>
      (s_l7Place F order_2 e_17.1).bind fun r_18 =>
      (idx g_1.2 i_10).bind fun e_19 =>
      (s_l7Place F order_2 e_19.2).bind fun r_20 =>
      (s_l1Most F (w64 (r_18 - r_20)) (w64 (r_20 - r_18))).bind fun r_21 =>
      (s_l1Most F most_9 r_21).bind fun r_22 =>
      (s_l7Band_l1 F order_2 g_1 k) r_22 (w64 (i_10 + 1))
    else
      some most_9
theorem t_f39_l1 (H : H39 D σ F) (order_2 : (List Int)) (g_1 : (Int × (List (Int × Int))))  : ∀ (k : Nat) (most_9 : Int) (i_10 : Int) (s : Nat → V), Facts [(1, (Enc.enc (order_2 : List Int))), (2, (.ref (.bx 2) 0 [] (.agg [(.int .i64 g_1.1), (Enc.enc (g_1.2 : List (Int × Int)))]))), (4, (.int .i64 0)), (5, (.int .i64 most_9)), (6, (.int .i64 i_10))] s → s_l7Band_l1 F order_2 g_1 k most_9 i_10 = some r → Run D σ (R39 r) (.run A39_1 [.lp A39_1, .bk 0, .sq A39_6]) s := by
  intro k
  induction k with
  | zero => intro most_9 i_10 s _ h; exact nomatch (h : (none : Option _) = some r)
  | succ k ih =>
    intro most_9 i_10 s hs h
    rw [s_l7Band_l1] at h
    obtain ⟨h1, h2, h4, h5, h6⟩ := hs
    refine .seq ?_
    refine .seq ?_
    refine run_reg ?_
    refine e_end ?_
    refine g_v1 (t := 6) (u := (.int .i64 i_10)) (.int .i64 i_10) h6 rfl rfl ?_
    refine g_v1 (t := 2) (u := (.ref (.bx 2) 0 [] (.agg [(.int .i64 g_1.1), (Enc.enc (g_1.2 : List (Int × Int)))]))) (.ref (.bx 2) 0 [1] (Enc.enc (g_1.2 : List (Int × Int)))) h2 rfl rfl ?_
    refine g_v1 (t := 10) (u := (.ref (.bx 2) 0 [1] (Enc.enc (g_1.2 : List (Int × Int))))) (Enc.enc (g_1.2 : List (Int × Int))) rfl rfl rfl ?_
    refine g_v (.int .i64 (g_1.2.length : Int)) (ev_len (xs := g_1.2) rfl) ?_
    refine g_v2 (t1 := 9) (t2 := 12) (u1 := (.int .i64 i_10)) (u2 := (.int .i64 (g_1.2.length : Int))) (.bool (decide (i_10 < (g_1.2.length : Int)))) rfl rfl rfl rfl ?_
    refine g_end ?_
    refine e_end ?_
    refine renew [(1, (Enc.enc (order_2 : List Int))), (2, (.ref (.bx 2) 0 [] (.agg [(.int .i64 g_1.1), (Enc.enc (g_1.2 : List (Int × Int)))]))), (4, (.int .i64 0)), (5, (.int .i64 most_9)), (6, (.int .i64 i_10)), (13, (.bool (decide (i_10 < (g_1.2.length : Int)))))] ⟨h1, h2, h4, h5, h6, rfl⟩ ?_
    rintro s ⟨h1, h2, h4, h5, h6, h13⟩
    refine .nsq ?_
    refine run_cond (t := decide (i_10 < (g_1.2.length : Int))) h13 h (fun h => ?_) (fun h => ?_)
    · refine .skip ?_
      refine .nsq ?_
      refine .seq ?_
      refine .block ?_
      refine .seq ?_
      refine run_reg ?_
      refine e_end ?_
      refine g_v1 (t := 1) (u := (Enc.enc (order_2 : List Int))) (Enc.enc (order_2 : List Int)) h1 rfl rfl ?_
      refine g_v1 (t := 2) (u := (.ref (.bx 2) 0 [] (.agg [(.int .i64 g_1.1), (Enc.enc (g_1.2 : List (Int × Int)))]))) (.ref (.bx 2) 0 [1] (Enc.enc (g_1.2 : List (Int × Int)))) h2 rfl rfl ?_
      refine g_v1 (t := 17) (u := (.ref (.bx 2) 0 [1] (Enc.enc (g_1.2 : List (Int × Int))))) (Enc.enc (g_1.2 : List (Int × Int))) rfl rfl rfl ?_
      refine g_v1 (t := 6) (u := (.int .i64 i_10)) (.int .i64 i_10) h6 rfl rfl ?_
      obtain ⟨e_17, E_e_17, h⟩ := bind_some h
      refine g_v (.ref .sh 0 [] (.agg [(.int .i64 e_17.1), (.int .i64 e_17.2)])) (ev_idx (t := .sh) (lo := 0) (xs := g_1.2) rfl rfl E_e_17 rfl rfl) ?_
      refine g_v1 (t := 20) (u := (.ref .sh 0 [] (.agg [(.int .i64 e_17.1), (.int .i64 e_17.2)]))) (.ref .sh 0 [0] (.int .i64 e_17.1)) rfl rfl rfl ?_
      refine g_v1 (t := 21) (u := (.ref .sh 0 [0] (.int .i64 e_17.1))) (.int .i64 e_17.1) rfl rfl rfl ?_
      obtain ⟨r_18, E_r_18, h⟩ := bind_some h
      refine g_call (m := 0) (al := false) (r := (Enc.enc (r_18 : Int))) [Enc.enc (order_2 : (List Int)), Enc.enc (e_17.1 : Int)] (ta_cons (v := (Enc.enc (order_2 : List Int))) rfl rfl (Enc.erase_enc (order_2 : (List Int))) (ta_cons (v := (.int .i64 e_17.1)) rfl rfl rfl ta_nil)) (H.c67 _ _ _ E_r_18) H.g67 rfl rfl rfl rfl ?_
      refine g_v1 (t := 1) (u := (Enc.enc (order_2 : List Int))) (Enc.enc (order_2 : List Int)) h1 rfl rfl ?_
      refine g_v1 (t := 2) (u := (.ref (.bx 2) 0 [] (.agg [(.int .i64 g_1.1), (Enc.enc (g_1.2 : List (Int × Int)))]))) (.ref (.bx 2) 0 [1] (Enc.enc (g_1.2 : List (Int × Int)))) h2 rfl rfl ?_
      refine g_v1 (t := 25) (u := (.ref (.bx 2) 0 [1] (Enc.enc (g_1.2 : List (Int × Int))))) (Enc.enc (g_1.2 : List (Int × Int))) rfl rfl rfl ?_
      refine g_v1 (t := 6) (u := (.int .i64 i_10)) (.int .i64 i_10) h6 rfl rfl ?_
      obtain ⟨e_19, E_e_19, h⟩ := bind_some h
      refine g_v (.ref .sh 0 [] (.agg [(.int .i64 e_19.1), (.int .i64 e_19.2)])) (ev_idx (t := .sh) (lo := 0) (xs := g_1.2) rfl rfl E_e_19 rfl rfl) ?_
      refine g_v1 (t := 28) (u := (.ref .sh 0 [] (.agg [(.int .i64 e_19.1), (.int .i64 e_19.2)]))) (.ref .sh 0 [1] (.int .i64 e_19.2)) rfl rfl rfl ?_
      refine g_v1 (t := 29) (u := (.ref .sh 0 [1] (.int .i64 e_19.2))) (.int .i64 e_19.2) rfl rfl rfl ?_
      obtain ⟨r_20, E_r_20, h⟩ := bind_some h
      refine g_call (m := 0) (al := false) (r := (Enc.enc (r_20 : Int))) [Enc.enc (order_2 : (List Int)), Enc.enc (e_19.2 : Int)] (ta_cons (v := (Enc.enc (order_2 : List Int))) rfl rfl (Enc.erase_enc (order_2 : (List Int))) (ta_cons (v := (.int .i64 e_19.2)) rfl rfl rfl ta_nil)) (H.c67 _ _ _ E_r_20) H.g67 rfl rfl rfl rfl ?_
      refine g_v1 (t := 23) (u := (.int .i64 r_18)) (.int .i64 r_18) rfl rfl rfl ?_
      refine g_v1 (t := 31) (u := (.int .i64 r_20)) (.int .i64 r_20) rfl rfl rfl ?_
      refine g_end ?_
      refine e_end ?_
      refine renew [(1, (Enc.enc (order_2 : List Int))), (2, (.ref (.bx 2) 0 [] (.agg [(.int .i64 g_1.1), (Enc.enc (g_1.2 : List (Int × Int)))]))), (4, (.int .i64 0)), (5, (.int .i64 most_9)), (6, (.int .i64 i_10)), (7, (.int .i64 r_18)), (8, (.int .i64 r_20))] ⟨h1, h2, h4, h5, h6, rfl, rfl⟩ ?_
      rintro s ⟨h1, h2, h4, h5, h6, h7, h8⟩
      refine .nsq ?_
      refine run_reg ?_
      refine e_end ?_
      refine g_v1 (t := 5) (u := (.int .i64 most_9)) (.int .i64 most_9) h5 rfl rfl ?_
      refine g_v1 (t := 7) (u := (.int .i64 r_18)) (.int .i64 r_18) h7 rfl rfl ?_
      refine g_v1 (t := 8) (u := (.int .i64 r_20)) (.int .i64 r_20) h8 rfl rfl ?_
      refine g_v2 (t1 := 33) (t2 := 34) (u1 := (.int .i64 r_18)) (u2 := (.int .i64 r_20)) (.int .i64 (w64 (r_18 - r_20))) rfl rfl rfl rfl ?_
      refine g_v1 (t := 8) (u := (.int .i64 r_20)) (.int .i64 r_20) h8 rfl rfl ?_
      refine g_v1 (t := 7) (u := (.int .i64 r_18)) (.int .i64 r_18) h7 rfl rfl ?_
      refine g_v2 (t1 := 36) (t2 := 37) (u1 := (.int .i64 r_20)) (u2 := (.int .i64 r_18)) (.int .i64 (w64 (r_20 - r_18))) rfl rfl rfl rfl ?_
      obtain ⟨r_21, E_r_21, h⟩ := bind_some h
      refine g_call (m := 0) (al := false) (r := (Enc.enc (r_21 : Int))) [Enc.enc (w64 (r_18 - r_20) : Int), Enc.enc (w64 (r_20 - r_18) : Int)] (ta_cons (v := (.int .i64 (w64 (r_18 - r_20)))) rfl rfl rfl (ta_cons (v := (.int .i64 (w64 (r_20 - r_18)))) rfl rfl rfl ta_nil)) (H.c45 _ _ _ E_r_21) H.g45 rfl rfl rfl rfl ?_
      obtain ⟨r_22, E_r_22, h⟩ := bind_some h
      refine g_call (m := 0) (al := false) (r := (Enc.enc (r_22 : Int))) [Enc.enc (most_9 : Int), Enc.enc (r_21 : Int)] (ta_cons (v := (.int .i64 most_9)) rfl rfl rfl (ta_cons (v := (.int .i64 r_21)) rfl rfl rfl ta_nil)) (H.c45 _ _ _ E_r_22) H.g45 rfl rfl rfl rfl ?_
      refine g_v1 (t := 40) (u := (.int .i64 r_22)) (.int .i64 r_22) rfl rfl rfl ?_
      refine g_end ?_
      refine e_end ?_
      refine renew [(1, (Enc.enc (order_2 : List Int))), (2, (.ref (.bx 2) 0 [] (.agg [(.int .i64 g_1.1), (Enc.enc (g_1.2 : List (Int × Int)))]))), (4, (.int .i64 0)), (5, (.int .i64 r_22)), (6, (.int .i64 i_10))] ⟨h1, h2, h4, rfl, h6⟩ ?_
      rintro s ⟨h1, h2, h4, h5, h6⟩
      refine .nbk ?_
      refine .nsq ?_
      refine run_reg ?_
      refine e_end ?_
      refine g_v1 (t := 6) (u := (.int .i64 i_10)) (.int .i64 i_10) h6 rfl rfl ?_
      refine g_v1 (t := 14) (u := (.int .i64 i_10)) (.int .i64 (w64 (i_10 + 1))) rfl rfl rfl ?_
      refine g_v1 (t := 15) (u := (.int .i64 (w64 (i_10 + 1)))) (.int .i64 (w64 (i_10 + 1))) rfl rfl rfl ?_
      refine g_end ?_
      refine e_end ?_
      refine renew [(1, (Enc.enc (order_2 : List Int))), (2, (.ref (.bx 2) 0 [] (.agg [(.int .i64 g_1.1), (Enc.enc (g_1.2 : List (Int × Int)))]))), (4, (.int .i64 0)), (5, (.int .i64 r_22)), (6, (.int .i64 (w64 (i_10 + 1))))] ⟨h1, h2, h4, h5, rfl⟩ ?_
      rintro s ⟨h1, h2, h4, h5, h6⟩
      refine .nlp ?_
      exact ih r_22 (w64 (i_10 + 1)) _ ⟨h1, h2, h4, h5, h6⟩ h
    · refine .exit ?_
      refine .esq ?_
      refine .elp ?_
      refine .ebk ?_
      refine .nsq ?_
      refine .seq ?_
      refine run_reg ?_
      refine e_end ?_
      refine g_v1 (t := 5) (u := (.int .i64 most_9)) (.int .i64 most_9) h5 rfl rfl ?_
      refine g_v1 (t := 41) (u := (.int .i64 most_9)) (.int .i64 most_9) rfl rfl rfl ?_
      refine g_end ?_
      refine e_end ?_
      refine renew [(4, (.int .i64 most_9))] rfl ?_
      rintro s h4
      refine .nsq ?_
      refine .ret ?_
      have hr := Option.some.inj h
      subst hr
      exact rrA (res_tmp h4) rfl
def s_l7Band (F : Nat) (g_1 : (Int × (List (Int × Int)))) (order_2 : (List Int)) : Option Int :=
  s_l7Band_l1 F order_2 g_1 F 0 0
theorem t39 (H : H39 D σ F) (g_1 : (Int × (List (Int × Int)))) (order_2 : (List Int)) (s : Nat → V) (hs : Facts [(0, (.agg [(.int .i64 g_1.1), (Enc.enc (g_1.2 : List (Int × Int)))])), (1, (Enc.enc (order_2 : List Int)))] s) (h : s_l7Band F g_1 order_2 = some r) : Run D σ (R39 r) (.run A39 []) s := by
  unfold s_l7Band at h
  obtain ⟨h0, h1⟩ := hs
  refine .seq ?_
  refine run_reg ?_
  refine e_clr ?_
  refine e_end ?_
  refine g_box (.agg [(.int .i64 g_1.1), (Enc.enc (g_1.2 : List (Int × Int)))]) (rd_of (keep_clear (s := s) (pk := [2]) h0 rfl (map_agg (maps_cons rfl (maps_cons (Enc.map_enc _ (g_1.2 : List (Int × Int))) maps_nil)))) rfl) (gone_clear (s := s) (pk := [2]) (t := 2) rfl) rfl ?_
  refine g_v0 (.int .i64 0) rfl rfl ?_
  refine g_end ?_
  refine e_end ?_
  refine renew [(1, (Enc.enc (order_2 : List Int))), (2, (.ref (.bx 2) 0 [] (.agg [(.int .i64 g_1.1), (Enc.enc (g_1.2 : List (Int × Int)))]))), (4, (.int .i64 0))] ⟨(keep_clear (s := s) (pk := [2]) h1 rfl (Enc.map_enc _ (order_2 : List Int))), rfl, rfl⟩ ?_
  rintro s ⟨h1, h2, h4⟩
  refine .nsq ?_
  refine .seq ?_
  refine run_reg ?_
  refine e_end ?_
  refine g_v0 (.int .i64 0) rfl rfl ?_
  refine g_end ?_
  refine e_end ?_
  refine renew [(1, (Enc.enc (order_2 : List Int))), (2, (.ref (.bx 2) 0 [] (.agg [(.int .i64 g_1.1), (Enc.enc (g_1.2 : List (Int × Int)))]))), (4, (.int .i64 0)), (5, (.int .i64 0))] ⟨h1, h2, h4, rfl⟩ ?_
  rintro s ⟨h1, h2, h4, h5⟩
  refine .nsq ?_
  refine .seq ?_
  refine .seq ?_
  refine run_reg ?_
  refine e_end ?_
  refine g_v0 (.int .i64 0) rfl rfl ?_
  refine g_end ?_
  refine e_end ?_
  refine renew [(1, (Enc.enc (order_2 : List Int))), (2, (.ref (.bx 2) 0 [] (.agg [(.int .i64 g_1.1), (Enc.enc (g_1.2 : List (Int × Int)))]))), (4, (.int .i64 0)), (5, (.int .i64 0)), (6, (.int .i64 0))] ⟨h1, h2, h4, h5, rfl⟩ ?_
  rintro s ⟨h1, h2, h4, h5, h6⟩
  refine .nsq ?_
  refine .block ?_
  refine .loop ?_
  exact t_f39_l1 H order_2 g_1 F 0 0 _ ⟨h1, h2, h4, h5, h6⟩ h
end
def e39 (F : Nat) : Ent := ⟨39, dn2 (s_l7Band F) (fun (r : Int) => (Enc.enc (r : Int))), 0, false⟩
theorem o39 {D : Den} {σ : Sig} {F : Nat} (hF : Fits2 Try.prog D σ) (H : H39 D σ F) : (e39 F).Ok Try.prog := by
  refine ⟨fun args r h => ?_, ⟨Try.f39, Try.func39, rfl, rfl⟩⟩
  obtain ⟨x0, x1, y, rfl, hy, rfl⟩ := dn2_open h
  exact contract_run hF (by kernel_rfl) Try.func39 rfl c39 (show 2 ≤ Try.f39.ntmps by decide) (t39 H x0 x1 _ ⟨rfl, rfl⟩ hy)
/- loop.example/g01109/spec.BandwidthOf -/
def A18_2 : AC := (AC.cond (O.t 9) (AC.seq (AC.reg [] [(I.mk (some 4) none false (X.v (A.mov (O.k (V.int IntKind.i64 (Int.ofNat 0)))))), (I.mk (some 5) none false (X.v (A.mov (O.k (V.bool false)))))] []) AC.ret) AC.skip)
def A18_3 : AC := (AC.seq (AC.reg [] [(I.mk (some 10) none false (X.v (A.load (Sh.ag [Sh.s, Sh.p]) (O.t 2)))), (I.mk (some 11) none false (X.v (A.mov (O.t 1)))), (I.mk (some 12) none false (X.call (O.k (V.fn 39 [] [])) [(O.t 10), (O.t 11)])), (I.mk (some 4) none false (X.v (A.mov (O.t 12)))), (I.mk (some 5) none false (X.v (A.mov (O.k (V.bool true)))))] []) AC.ret)
def A18_1 : AC := (AC.seq (AC.seq (AC.reg [] [(I.mk (some 6) none false (X.v (A.load (Sh.ag [Sh.s, Sh.p]) (O.t 2)))), (I.mk (some 7) none false (X.v (A.mov (O.t 1)))), (I.mk (some 8) none false (X.call (O.k (V.fn 38 [] [])) [(O.t 6), (O.t 7)])), (I.mk (some 9) none false (X.v (A.un UnOp.not (O.t 8))))] []) A18_2) A18_3)
def A18 : AC := (AC.seq (AC.reg [.clr [2]] [(I.mk (some 2) none false (X.box (O.t 0))), (I.mk (some 4) none false (X.v (A.mov (O.k (V.int IntKind.i64 (Int.ofNat 0)))))), (I.mk (some 5) none false (X.v (A.mov (O.k (V.bool false)))))] []) A18_1)
def an18 : List An := [{ id := 0, pre := [.clr [2]], ep := [] }]
theorem c18 : cC Try.prog Try.f18.ntmps an18 (Try.f18.body.getD .skip) = some A18 := by rfl
structure H18 (D : Den) (σ : Sig) (F : Nat) : Prop where
  c38 : ∀ x0 x1 r, s_l7Order F x0 x1 = some r → D 38 [Enc.enc x0, Enc.enc x1] = some (Enc.enc (r : Bool))
  g38 : σ 38 = some (0, false)
  c39 : ∀ x0 x1 r, s_l7Band F x0 x1 = some r → D 39 [Enc.enc x0, Enc.enc x1] = some (Enc.enc (r : Int))
  g39 : σ 39 = some (0, false)
abbrev R18 (r : (Int × Bool)) : (Nat → V) → Prop := RR Try.prog [.tmp 4, .tmp 5] 0 false (.tup [Enc.enc (r.1 : Int), Enc.enc (r.2 : Bool)])
section
variable {D : Den} {σ : Sig} {F : Nat} {r : (Int × Bool)}
def s_BandwidthOf (F : Nat) (g_1 : (Int × (List (Int × Int)))) (order_2 : (List Int)) : Option (Int × Bool) :=
  (s_l7Order F g_1 order_2).bind fun r_3 =>
  bif (!r_3) then
    some (0, false)
  else
    (s_l7Band F g_1 order_2).bind fun r_4 =>
    some (r_4, true)
theorem t18 (H : H18 D σ F) (g_1 : (Int × (List (Int × Int)))) (order_2 : (List Int)) (s : Nat → V) (hs : Facts [(0, (.agg [(.int .i64 g_1.1), (Enc.enc (g_1.2 : List (Int × Int)))])), (1, (Enc.enc (order_2 : List Int)))] s) (h : s_BandwidthOf F g_1 order_2 = some r) : Run D σ (R18 r) (.run A18 []) s := by
  unfold s_BandwidthOf at h
  obtain ⟨h0, h1⟩ := hs
  refine .seq ?_
  refine run_reg ?_
  refine e_clr ?_
  refine e_end ?_
  refine g_box (.agg [(.int .i64 g_1.1), (Enc.enc (g_1.2 : List (Int × Int)))]) (rd_of (keep_clear (s := s) (pk := [2]) h0 rfl (map_agg (maps_cons rfl (maps_cons (Enc.map_enc _ (g_1.2 : List (Int × Int))) maps_nil)))) rfl) (gone_clear (s := s) (pk := [2]) (t := 2) rfl) rfl ?_
  refine g_v0 (.int .i64 0) rfl rfl ?_
  refine g_v0 (.bool false) rfl rfl ?_
  refine g_end ?_
  refine e_end ?_
  refine renew [(1, (Enc.enc (order_2 : List Int))), (2, (.ref (.bx 2) 0 [] (.agg [(.int .i64 g_1.1), (Enc.enc (g_1.2 : List (Int × Int)))]))), (4, (.int .i64 0)), (5, (.bool false))] ⟨(keep_clear (s := s) (pk := [2]) h1 rfl (Enc.map_enc _ (order_2 : List Int))), rfl, rfl, rfl⟩ ?_
  rintro s ⟨h1, h2, h4, h5⟩
  refine .nsq ?_
  refine .seq ?_
  refine .seq ?_
  refine run_reg ?_
  refine e_end ?_
  refine g_v1 (t := 2) (u := (.ref (.bx 2) 0 [] (.agg [(.int .i64 g_1.1), (Enc.enc (g_1.2 : List (Int × Int)))]))) (.agg [(.int .i64 g_1.1), (Enc.enc (g_1.2 : List (Int × Int)))]) h2 rfl rfl ?_
  refine g_v1 (t := 1) (u := (Enc.enc (order_2 : List Int))) (Enc.enc (order_2 : List Int)) h1 rfl rfl ?_
  obtain ⟨r_3, E_r_3, h⟩ := bind_some h
  refine g_call (m := 0) (al := false) (r := (Enc.enc (r_3 : Bool))) [Enc.enc (g_1 : (Int × (List (Int × Int)))), Enc.enc (order_2 : (List Int))] (ta_cons (v := (.agg [(.int .i64 g_1.1), (Enc.enc (g_1.2 : List (Int × Int)))])) rfl rfl (Enc.erase_enc (g_1 : (Int × (List (Int × Int))))) (ta_cons (v := (Enc.enc (order_2 : List Int))) rfl rfl (Enc.erase_enc (order_2 : (List Int))) ta_nil)) (H.c38 _ _ _ E_r_3) H.g38 rfl rfl rfl rfl ?_
  refine g_v1 (t := 8) (u := (.bool r_3)) (.bool (!r_3)) rfl rfl rfl ?_
  refine g_end ?_
  refine e_end ?_
  refine renew [(1, (Enc.enc (order_2 : List Int))), (2, (.ref (.bx 2) 0 [] (.agg [(.int .i64 g_1.1), (Enc.enc (g_1.2 : List (Int × Int)))]))), (4, (.int .i64 0)), (5, (.bool false)), (9, (.bool (!r_3)))] ⟨h1, h2, h4, h5, rfl⟩ ?_
  rintro s ⟨h1, h2, h4, h5, h9⟩
  refine .nsq ?_
  refine run_cond (t := (!r_3)) h9 h (fun h => ?_) (fun h => ?_)
  · refine .seq ?_
    refine run_reg ?_
    refine e_end ?_
    refine g_v0 (.int .i64 0) rfl rfl ?_
    refine g_v0 (.bool false) rfl rfl ?_
    refine g_end ?_
    refine e_end ?_
    refine renew [(1, (Enc.enc (order_2 : List Int))), (2, (.ref (.bx 2) 0 [] (.agg [(.int .i64 g_1.1), (Enc.enc (g_1.2 : List (Int × Int)))]))), (4, (.int .i64 0)), (5, (.bool false))] ⟨h1, h2, rfl, rfl⟩ ?_
    rintro s ⟨h1, h2, h4, h5⟩
    refine .nsq ?_
    refine .ret ?_
    have hr := Option.some.inj h
    subst hr
    exact rrB (res_tmp h4) (res_tmp h5) rfl
  · refine .skip ?_
    refine .nsq ?_
    refine .seq ?_
    refine run_reg ?_
    refine e_end ?_
    refine g_v1 (t := 2) (u := (.ref (.bx 2) 0 [] (.agg [(.int .i64 g_1.1), (Enc.enc (g_1.2 : List (Int × Int)))]))) (.agg [(.int .i64 g_1.1), (Enc.enc (g_1.2 : List (Int × Int)))]) h2 rfl rfl ?_
    refine g_v1 (t := 1) (u := (Enc.enc (order_2 : List Int))) (Enc.enc (order_2 : List Int)) h1 rfl rfl ?_
    obtain ⟨r_4, E_r_4, h⟩ := bind_some h
    refine g_call (m := 0) (al := false) (r := (Enc.enc (r_4 : Int))) [Enc.enc (g_1 : (Int × (List (Int × Int)))), Enc.enc (order_2 : (List Int))] (ta_cons (v := (.agg [(.int .i64 g_1.1), (Enc.enc (g_1.2 : List (Int × Int)))])) rfl rfl (Enc.erase_enc (g_1 : (Int × (List (Int × Int))))) (ta_cons (v := (Enc.enc (order_2 : List Int))) rfl rfl (Enc.erase_enc (order_2 : (List Int))) ta_nil)) (H.c39 _ _ _ E_r_4) H.g39 rfl rfl rfl rfl ?_
    refine g_v1 (t := 12) (u := (.int .i64 r_4)) (.int .i64 r_4) rfl rfl rfl ?_
    refine g_v0 (.bool true) rfl rfl ?_
    refine g_end ?_
    refine e_end ?_
    refine renew [(4, (.int .i64 r_4)), (5, (.bool true))] ⟨rfl, rfl⟩ ?_
    rintro s ⟨h4, h5⟩
    refine .nsq ?_
    refine .ret ?_
    have hr := Option.some.inj h
    subst hr
    exact rrB (res_tmp h4) (res_tmp h5) rfl
end
def e18 (F : Nat) : Ent := ⟨18, dn2 (s_BandwidthOf F) (fun (r : (Int × Bool)) => (.tup [Enc.enc (r.1 : Int), Enc.enc (r.2 : Bool)])), 0, false⟩
theorem o18 {D : Den} {σ : Sig} {F : Nat} (hF : Fits2 Try.prog D σ) (H : H18 D σ F) : (e18 F).Ok Try.prog := by
  refine ⟨fun args r h => ?_, ⟨Try.f18, Try.func18, rfl, rfl⟩⟩
  obtain ⟨x0, x1, y, rfl, hy, rfl⟩ := dn2_open h
  exact contract_run hF (by kernel_rfl) Try.func18 rfl c18 (show 2 ≤ Try.f18.ntmps by decide) (t18 H x0 x1 _ ⟨rfl, rfl⟩ hy)
/- loop.example/g01109/impl.within -/
def A60_1 : AC := (AC.seq (AC.reg [] [(I.mk (some 7) none false (X.v (A.mov (O.t 0)))), (I.mk (some 8) none false (X.v (A.mov (O.t 1)))), (I.mk (some 9) none false (X.v (A.bin BinOp.geq (O.t 7) (O.t 8)))), (I.mk (some 10) none false (X.v (A.mov (O.t 9)))), (I.mk (some 11) (some (10, true)) false (X.v (A.mov (O.t 0)))), (I.mk (some 12) (some (10, true)) false (X.v (A.mov (O.t 2)))), (I.mk (some 13) (some (10, true)) false (X.v (A.bin BinOp.leq (O.t 11) (O.t 12)))), (I.mk (some 14) none false (X.v (A.pick (O.t 10) (O.t 13) (O.k (V.bool false))))), (I.mk (some 6) none false (X.v (A.mov (O.t 14))))] []) AC.ret)
def A60 : AC := (AC.seq (AC.reg [] [(I.mk (some 6) none false (X.v (A.mov (O.k (V.bool false)))))] []) A60_1)
def an60 : List An := []
theorem c60 : cC Try.prog Try.f60.ntmps an60 (Try.f60.body.getD .skip) = some A60 := by rfl
structure H60 (D : Den) (σ : Sig) (F : Nat) : Prop where
  mk ::
abbrev R60 (r : Bool) : (Nat → V) → Prop := RR Try.prog [.tmp 6] 0 false (Enc.enc (r : Bool))
section
variable {D : Den} {σ : Sig} {F : Nat} {r : Bool}
def i_within (F : Nat) (n_1 : Int) (low_2 : Int) (high_3 : Int) : Option Bool :=
  bif decide (n_1 ≥ low_2) then
    some (decide (n_1 ≤ high_3))
  else
    some false
theorem t60 (H : H60 D σ F) (n_1 : Int) (low_2 : Int) (high_3 : Int) (s : Nat → V) (hs : Facts [(0, (.int .i64 n_1)), (1, (.int .i64 low_2)), (2, (.int .i64 high_3))] s) (h : i_within F n_1 low_2 high_3 = some r) : Run D σ (R60 r) (.run A60 []) s := by
  unfold i_within at h
  obtain ⟨h0, h1, h2⟩ := hs
  refine .seq ?_
  refine run_reg ?_
  refine e_end ?_
  refine g_v0 (.bool false) rfl rfl ?_
  refine g_end ?_
  refine e_end ?_
  refine renew [(0, (.int .i64 n_1)), (1, (.int .i64 low_2)), (2, (.int .i64 high_3)), (6, (.bool false))] ⟨h0, h1, h2, rfl⟩ ?_
  rintro s ⟨h0, h1, h2, h6⟩
  refine .nsq ?_
  refine .seq ?_
  refine run_reg ?_
  refine e_end ?_
  refine g_v1 (t := 0) (u := (.int .i64 n_1)) (.int .i64 n_1) h0 rfl rfl ?_
  refine g_v1 (t := 1) (u := (.int .i64 low_2)) (.int .i64 low_2) h1 rfl rfl ?_
  refine g_v2 (t1 := 7) (t2 := 8) (u1 := (.int .i64 n_1)) (u2 := (.int .i64 low_2)) (.bool (decide (n_1 ≥ low_2))) rfl rfl rfl rfl ?_
  refine g_v1 (t := 9) (u := (.bool (decide (n_1 ≥ low_2)))) (.bool (decide (n_1 ≥ low_2))) rfl rfl rfl ?_
  refine split_on (c := decide (n_1 ≥ low_2)) h (fun hg4 h => ?_) (fun hg4 h => ?_)
  · refine g_yes (Eq.trans (b := .bool (decide (n_1 ≥ low_2))) rfl (congrArg V.bool hg4)) (g_v1 (t := 0) (u := (.int .i64 n_1)) (.int .i64 n_1) h0 rfl rfl ?_)
    refine g_yes (Eq.trans (b := .bool (decide (n_1 ≥ low_2))) rfl (congrArg V.bool hg4)) (g_v1 (t := 2) (u := (.int .i64 high_3)) (.int .i64 high_3) h2 rfl rfl ?_)
    refine g_yes (Eq.trans (b := .bool (decide (n_1 ≥ low_2))) rfl (congrArg V.bool hg4)) (g_v2 (t1 := 11) (t2 := 12) (u1 := (.int .i64 n_1)) (u2 := (.int .i64 high_3)) (.bool (decide (n_1 ≤ high_3))) rfl rfl rfl rfl ?_)
    refine g_v2 (t1 := 10) (t2 := 13) (u1 := (.bool true)) (u2 := (.bool (decide (n_1 ≤ high_3)))) (.bool (decide (n_1 ≤ high_3))) (Eq.trans (b := .bool (decide (n_1 ≥ low_2))) rfl (congrArg V.bool hg4)) rfl rfl rfl ?_
    refine g_v1 (t := 14) (u := (.bool (decide (n_1 ≤ high_3)))) (.bool (decide (n_1 ≤ high_3))) rfl rfl rfl ?_
    refine g_end ?_
    refine e_end ?_
    refine renew [(6, (.bool (decide (n_1 ≤ high_3))))] rfl ?_
    rintro s h6
    refine .nsq ?_
    refine .ret ?_
    have hr := Option.some.inj h
    subst hr
    exact rrA (res_tmp h6) rfl
  · refine g_no (Eq.trans (b := .bool (decide (n_1 ≥ low_2))) rfl (congrArg V.bool hg4)) ?_
    refine g_no (Eq.trans (b := .bool (decide (n_1 ≥ low_2))) rfl (congrArg V.bool hg4)) ?_
    refine g_no (Eq.trans (b := .bool (decide (n_1 ≥ low_2))) rfl (congrArg V.bool hg4)) ?_
    refine g_v2 (t1 := 10) (t2 := 13) (u1 := (.bool false)) (u2 := (.tup [])) (.bool false) (Eq.trans (b := .bool (decide (n_1 ≥ low_2))) rfl (congrArg V.bool hg4)) rfl rfl rfl ?_
    refine g_v1 (t := 14) (u := (.bool false)) (.bool false) rfl rfl rfl ?_
    refine g_end ?_
    refine e_end ?_
    refine renew [(6, (.bool false))] rfl ?_
    rintro s h6
    refine .nsq ?_
    refine .ret ?_
    have hr := Option.some.inj h
    subst hr
    exact rrA (res_tmp h6) rfl
end
def e60 (F : Nat) : Ent := ⟨60, dn3 (i_within F) (fun (r : Bool) => (Enc.enc (r : Bool))), 0, false⟩
theorem o60 {D : Den} {σ : Sig} {F : Nat} (hF : Fits2 Try.prog D σ) (H : H60 D σ F) : (e60 F).Ok Try.prog := by
  refine ⟨fun args r h => ?_, ⟨Try.f60, Try.func60, rfl, rfl⟩⟩
  obtain ⟨x0, x1, x2, y, rfl, hy, rfl⟩ := dn3_open h
  exact contract_run hF (by kernel_rfl) Try.func60 rfl c60 (show 3 ≤ Try.f60.ntmps by decide) (t60 H x0 x1 x2 _ ⟨rfl, rfl, rfl⟩ hy)
/- cmp.isNaN[int] -/
def A80_1 : AC := (AC.seq (AC.reg [] [(I.mk (some 3) none false (X.v (A.mov (O.t 0)))), (I.mk (some 4) none false (X.v (A.mov (O.t 0)))), (I.mk (some 5) none false (X.v (A.bin BinOp.neq (O.t 3) (O.t 4)))), (I.mk (some 2) none false (X.v (A.mov (O.t 5))))] []) AC.ret)
def A80 : AC := (AC.seq (AC.reg [] [(I.mk (some 2) none false (X.v (A.mov (O.k (V.bool false)))))] []) A80_1)
def an80 : List An := []
theorem c80 : cC Try.prog Try.f80.ntmps an80 (Try.f80.body.getD .skip) = some A80 := by rfl
structure H80 (D : Den) (σ : Sig) (F : Nat) : Prop where
  mk ::
abbrev R80 (r : Bool) : (Nat → V) → Prop := RR Try.prog [.tmp 2] 0 false (Enc.enc (r : Bool))
section
variable {D : Den} {σ : Sig} {F : Nat} {r : Bool}
def cmp_isNaN_int (F : Nat) (x_1 : Int) : Option Bool :=
  some (x_1 != x_1)
theorem t80 (H : H80 D σ F) (x_1 : Int) (s : Nat → V) (hs : Facts [(0, (.int .i64 x_1))] s) (h : cmp_isNaN_int F x_1 = some r) : Run D σ (R80 r) (.run A80 []) s := by
  unfold cmp_isNaN_int at h
  have h0 := hs
  refine .seq ?_
  refine run_reg ?_
  refine e_end ?_
  refine g_v0 (.bool false) rfl rfl ?_
  refine g_end ?_
  refine e_end ?_
  refine renew [(0, (.int .i64 x_1)), (2, (.bool false))] ⟨h0, rfl⟩ ?_
  rintro s ⟨h0, h2⟩
  refine .nsq ?_
  refine .seq ?_
  refine run_reg ?_
  refine e_end ?_
  refine g_v1 (t := 0) (u := (.int .i64 x_1)) (.int .i64 x_1) h0 rfl rfl ?_
  refine g_v1 (t := 0) (u := (.int .i64 x_1)) (.int .i64 x_1) h0 rfl rfl ?_
  refine g_v2 (t1 := 3) (t2 := 4) (u1 := (.int .i64 x_1)) (u2 := (.int .i64 x_1)) (.bool (x_1 != x_1)) rfl rfl rfl rfl ?_
  refine g_v1 (t := 5) (u := (.bool (x_1 != x_1))) (.bool (x_1 != x_1)) rfl rfl rfl ?_
  refine g_end ?_
  refine e_end ?_
  refine renew [(2, (.bool (x_1 != x_1)))] rfl ?_
  rintro s h2
  refine .nsq ?_
  refine .ret ?_
  have hr := Option.some.inj h
  subst hr
  exact rrA (res_tmp h2) rfl
end
def e80 (F : Nat) : Ent := ⟨80, dn1 (cmp_isNaN_int F) (fun (r : Bool) => (Enc.enc (r : Bool))), 0, false⟩
theorem o80 {D : Den} {σ : Sig} {F : Nat} (hF : Fits2 Try.prog D σ) (H : H80 D σ F) : (e80 F).Ok Try.prog := by
  refine ⟨fun args r h => ?_, ⟨Try.f80, Try.func80, rfl, rfl⟩⟩
  obtain ⟨x0, y, rfl, hy, rfl⟩ := dn1_open h
  exact contract_run hF (by kernel_rfl) Try.func80 rfl c80 (show 1 ≤ Try.f80.ntmps by decide) (t80 H x0 _ rfl hy)
/- cmp.Compare[int] -/
def A78_5 : AC := (AC.cond (O.t 12) (AC.seq (AC.reg [] [(I.mk (some 4) none false (X.v (A.mov (O.k (V.int IntKind.i64 (Int.ofNat 0))))))] []) AC.ret) AC.skip)
def A78_6 : AC := (AC.seq (AC.reg [] [(I.mk (some 4) none false (X.v (A.mov (O.k (V.int IntKind.i64 (Int.negSucc 0))))))] []) AC.ret)
def A78_4 : AC := (AC.cond (O.t 11) (AC.seq (AC.seq (AC.reg [] [(I.mk (some 12) none false (X.v (A.mov (O.t 6))))] []) A78_5) A78_6) AC.skip)
def A78_8 : AC := (AC.cond (O.t 13) (AC.seq (AC.reg [] [(I.mk (some 4) none false (X.v (A.mov (O.k (V.int IntKind.i64 (Int.ofNat 1))))))] []) AC.ret) AC.skip)
def A78_10 : AC := (AC.cond (O.t 16) (AC.seq (AC.reg [] [(I.mk (some 4) none false (X.v (A.mov (O.k (V.int IntKind.i64 (Int.negSucc 0))))))] []) AC.ret) AC.skip)
def A78_12 : AC := (AC.cond (O.t 19) (AC.seq (AC.reg [] [(I.mk (some 4) none false (X.v (A.mov (O.k (V.int IntKind.i64 (Int.ofNat 1))))))] []) AC.ret) AC.skip)
def A78_13 : AC := (AC.seq (AC.reg [] [(I.mk (some 4) none false (X.v (A.mov (O.k (V.int IntKind.i64 (Int.ofNat 0))))))] []) AC.ret)
def A78_11 : AC := (AC.seq (AC.seq (AC.reg [] [(I.mk (some 17) none false (X.v (A.mov (O.t 0)))), (I.mk (some 18) none false (X.v (A.mov (O.t 1)))), (I.mk (some 19) none false (X.v (A.bin BinOp.gtr (O.t 17) (O.t 18))))] []) A78_12) A78_13)
def A78_9 : AC := (AC.seq (AC.seq (AC.reg [] [(I.mk (some 14) none false (X.v (A.mov (O.t 0)))), (I.mk (some 15) none false (X.v (A.mov (O.t 1)))), (I.mk (some 16) none false (X.v (A.bin BinOp.lss (O.t 14) (O.t 15))))] []) A78_10) A78_11)
def A78_7 : AC := (AC.seq (AC.seq (AC.reg [] [(I.mk (some 13) none false (X.v (A.mov (O.t 6))))] []) A78_8) A78_9)
def A78_3 : AC := (AC.seq (AC.seq (AC.reg [] [(I.mk (some 11) none false (X.v (A.mov (O.t 5))))] []) A78_4) A78_7)
def A78_2 : AC := (AC.seq (AC.reg [] [(I.mk (some 9) none false (X.v (A.mov (O.t 1)))), (I.mk (some 10) none false (X.call (O.k (V.fn 80 [] [])) [(O.t 9)])), (I.mk (some 6) none false (X.v (A.mov (O.t 10))))] []) A78_3)
def A78_1 : AC := (AC.seq (AC.reg [] [(I.mk (some 7) none false (X.v (A.mov (O.t 0)))), (I.mk (some 8) none false (X.call (O.k (V.fn 80 [] [])) [(O.t 7)])), (I.mk (some 5) none false (X.v (A.mov (O.t 8))))] []) A78_2)
def A78 : AC := (AC.seq (AC.reg [] [(I.mk (some 4) none false (X.v (A.mov (O.k (V.int IntKind.i64 (Int.ofNat 0))))))] []) A78_1)
def an78 : List An := []
theorem c78 : cC Try.prog Try.f78.ntmps an78 (Try.f78.body.getD .skip) = some A78 := by rfl
structure H78 (D : Den) (σ : Sig) (F : Nat) : Prop where
  c80 : ∀ x0 r, cmp_isNaN_int F x0 = some r → D 80 [Enc.enc x0] = some (Enc.enc (r : Bool))
  g80 : σ 80 = some (0, false)
abbrev R78 (r : Int) : (Nat → V) → Prop := RR Try.prog [.tmp 4] 0 false (Enc.enc (r : Int))
section
variable {D : Den} {σ : Sig} {F : Nat} {r : Int}
def cmp_Compare_int (F : Nat) (x_1 : Int) (y_2 : Int) : Option Int :=
  (cmp_isNaN_int F x_1).bind fun r_3 =>
  (cmp_isNaN_int F y_2).bind fun r_4 =>
  bif r_3 then
    bif r_4 then
      some 0
    else
      some (-1)
  else
    bif r_4 then
      some 1
    else
      bif decide (x_1 < y_2) then
        some (-1)
      else
        bif decide (x_1 > y_2) then
          some 1
        else
          some 0
theorem t78 (H : H78 D σ F) (x_1 : Int) (y_2 : Int) (s : Nat → V) (hs : Facts [(0, (.int .i64 x_1)), (1, (.int .i64 y_2))] s) (h : cmp_Compare_int F x_1 y_2 = some r) : Run D σ (R78 r) (.run A78 []) s := by
  unfold cmp_Compare_int at h
  obtain ⟨h0, h1⟩ := hs
  refine .seq ?_
  refine run_reg ?_
  refine e_end ?_
  refine g_v0 (.int .i64 0) rfl rfl ?_
  refine g_end ?_
  refine e_end ?_
  refine renew [(0, (.int .i64 x_1)), (1, (.int .i64 y_2)), (4, (.int .i64 0))] ⟨h0, h1, rfl⟩ ?_
  rintro s ⟨h0, h1, h4⟩
  refine .nsq ?_
  refine .seq ?_
  refine run_reg ?_
  refine e_end ?_
  refine g_v1 (t := 0) (u := (.int .i64 x_1)) (.int .i64 x_1) h0 rfl rfl ?_
  obtain ⟨r_3, E_r_3, h⟩ := bind_some h
  refine g_call (m := 0) (al := false) (r := (Enc.enc (r_3 : Bool))) [Enc.enc (x_1 : Int)] (ta_cons (v := (.int .i64 x_1)) rfl rfl rfl ta_nil) (H.c80 _ _ E_r_3) H.g80 rfl rfl rfl rfl ?_
  refine g_v1 (t := 8) (u := (.bool r_3)) (.bool r_3) rfl rfl rfl ?_
  refine g_end ?_
  refine e_end ?_
  refine renew [(0, (.int .i64 x_1)), (1, (.int .i64 y_2)), (4, (.int .i64 0)), (5, (.bool r_3))] ⟨h0, h1, h4, rfl⟩ ?_
  rintro s ⟨h0, h1, h4, h5⟩
  refine .nsq ?_
  refine .seq ?_
  refine run_reg ?_
  refine e_end ?_
  refine g_v1 (t := 1) (u := (.int .i64 y_2)) (.int .i64 y_2) h1 rfl rfl ?_
  obtain ⟨r_4, E_r_4, h⟩ := bind_some h
  refine g_call (m := 0) (al := false) (r := (Enc.enc (r_4 : Bool))) [Enc.enc (y_2 : Int)] (ta_cons (v := (.int .i64 y_2)) rfl rfl rfl ta_nil) (H.c80 _ _ E_r_4) H.g80 rfl rfl rfl rfl ?_
  refine g_v1 (t := 10) (u := (.bool r_4)) (.bool r_4) rfl rfl rfl ?_
  refine g_end ?_
  refine e_end ?_
  refine renew [(0, (.int .i64 x_1)), (1, (.int .i64 y_2)), (4, (.int .i64 0)), (5, (.bool r_3)), (6, (.bool r_4))] ⟨h0, h1, h4, h5, rfl⟩ ?_
  rintro s ⟨h0, h1, h4, h5, h6⟩
  refine .nsq ?_
  refine .seq ?_
  refine .seq ?_
  refine run_reg ?_
  refine e_end ?_
  refine g_v1 (t := 5) (u := (.bool r_3)) (.bool r_3) h5 rfl rfl ?_
  refine g_end ?_
  refine e_end ?_
  refine renew [(0, (.int .i64 x_1)), (1, (.int .i64 y_2)), (4, (.int .i64 0)), (6, (.bool r_4)), (11, (.bool r_3))] ⟨h0, h1, h4, h6, rfl⟩ ?_
  rintro s ⟨h0, h1, h4, h6, h11⟩
  refine .nsq ?_
  refine run_cond (t := r_3) h11 h (fun h => ?_) (fun h => ?_)
  · refine .seq ?_
    refine .seq ?_
    refine run_reg ?_
    refine e_end ?_
    refine g_v1 (t := 6) (u := (.bool r_4)) (.bool r_4) h6 rfl rfl ?_
    refine g_end ?_
    refine e_end ?_
    refine renew [(0, (.int .i64 x_1)), (1, (.int .i64 y_2)), (4, (.int .i64 0)), (6, (.bool r_4)), (12, (.bool r_4))] ⟨h0, h1, h4, h6, rfl⟩ ?_
    rintro s ⟨h0, h1, h4, h6, h12⟩
    refine .nsq ?_
    refine run_cond (t := r_4) h12 h (fun h => ?_) (fun h => ?_)
    · refine .seq ?_
      refine run_reg ?_
      refine e_end ?_
      refine g_v0 (.int .i64 0) rfl rfl ?_
      refine g_end ?_
      refine e_end ?_
      refine renew [(0, (.int .i64 x_1)), (1, (.int .i64 y_2)), (4, (.int .i64 0)), (6, (.bool r_4))] ⟨h0, h1, rfl, h6⟩ ?_
      rintro s ⟨h0, h1, h4, h6⟩
      refine .nsq ?_
      refine .ret ?_
      have hr := Option.some.inj h
      subst hr
      exact rrA (res_tmp h4) rfl
    · refine .skip ?_
      refine .nsq ?_
      refine .seq ?_
      refine run_reg ?_
      refine e_end ?_
      refine g_v0 (.int .i64 (-1)) rfl rfl ?_
      refine g_end ?_
      refine e_end ?_
      refine renew [(0, (.int .i64 x_1)), (1, (.int .i64 y_2)), (4, (.int .i64 (-1))), (6, (.bool r_4))] ⟨h0, h1, rfl, h6⟩ ?_
      rintro s ⟨h0, h1, h4, h6⟩
      refine .nsq ?_
      refine .ret ?_
      have hr := Option.some.inj h
      subst hr
      exact rrA (res_tmp h4) rfl
  · refine .skip ?_
    refine .nsq ?_
    refine .seq ?_
    refine .seq ?_
    refine run_reg ?_
    refine e_end ?_
    refine g_v1 (t := 6) (u := (.bool r_4)) (.bool r_4) h6 rfl rfl ?_
    refine g_end ?_
    refine e_end ?_
    refine renew [(0, (.int .i64 x_1)), (1, (.int .i64 y_2)), (4, (.int .i64 0)), (13, (.bool r_4))] ⟨h0, h1, h4, rfl⟩ ?_
    rintro s ⟨h0, h1, h4, h13⟩
    refine .nsq ?_
    refine run_cond (t := r_4) h13 h (fun h => ?_) (fun h => ?_)
    · refine .seq ?_
      refine run_reg ?_
      refine e_end ?_
      refine g_v0 (.int .i64 1) rfl rfl ?_
      refine g_end ?_
      refine e_end ?_
      refine renew [(0, (.int .i64 x_1)), (1, (.int .i64 y_2)), (4, (.int .i64 1))] ⟨h0, h1, rfl⟩ ?_
      rintro s ⟨h0, h1, h4⟩
      refine .nsq ?_
      refine .ret ?_
      have hr := Option.some.inj h
      subst hr
      exact rrA (res_tmp h4) rfl
    · refine .skip ?_
      refine .nsq ?_
      refine .seq ?_
      refine .seq ?_
      refine run_reg ?_
      refine e_end ?_
      refine g_v1 (t := 0) (u := (.int .i64 x_1)) (.int .i64 x_1) h0 rfl rfl ?_
      refine g_v1 (t := 1) (u := (.int .i64 y_2)) (.int .i64 y_2) h1 rfl rfl ?_
      refine g_v2 (t1 := 14) (t2 := 15) (u1 := (.int .i64 x_1)) (u2 := (.int .i64 y_2)) (.bool (decide (x_1 < y_2))) rfl rfl rfl rfl ?_
      refine g_end ?_
      refine e_end ?_
      refine renew [(0, (.int .i64 x_1)), (1, (.int .i64 y_2)), (4, (.int .i64 0)), (16, (.bool (decide (x_1 < y_2))))] ⟨h0, h1, h4, rfl⟩ ?_
      rintro s ⟨h0, h1, h4, h16⟩
      refine .nsq ?_
      refine run_cond (t := decide (x_1 < y_2)) h16 h (fun h => ?_) (fun h => ?_)
      · refine .seq ?_
        refine run_reg ?_
        refine e_end ?_
        refine g_v0 (.int .i64 (-1)) rfl rfl ?_
        refine g_end ?_
        refine e_end ?_
        refine renew [(0, (.int .i64 x_1)), (1, (.int .i64 y_2)), (4, (.int .i64 (-1)))] ⟨h0, h1, rfl⟩ ?_
        rintro s ⟨h0, h1, h4⟩
        refine .nsq ?_
        refine .ret ?_
        have hr := Option.some.inj h
        subst hr
        exact rrA (res_tmp h4) rfl
      · refine .skip ?_
        refine .nsq ?_
        refine .seq ?_
        refine .seq ?_
        refine run_reg ?_
        refine e_end ?_
        refine g_v1 (t := 0) (u := (.int .i64 x_1)) (.int .i64 x_1) h0 rfl rfl ?_
        refine g_v1 (t := 1) (u := (.int .i64 y_2)) (.int .i64 y_2) h1 rfl rfl ?_
        refine g_v2 (t1 := 17) (t2 := 18) (u1 := (.int .i64 x_1)) (u2 := (.int .i64 y_2)) (.bool (decide (x_1 > y_2))) rfl rfl rfl rfl ?_
        refine g_end ?_
        refine e_end ?_
        refine renew [(4, (.int .i64 0)), (19, (.bool (decide (x_1 > y_2))))] ⟨h4, rfl⟩ ?_
        rintro s ⟨h4, h19⟩
        refine .nsq ?_
        refine run_cond (t := decide (x_1 > y_2)) h19 h (fun h => ?_) (fun h => ?_)
        · refine .seq ?_
          refine run_reg ?_
          refine e_end ?_
          refine g_v0 (.int .i64 1) rfl rfl ?_
          refine g_end ?_
          refine e_end ?_
          refine renew [(4, (.int .i64 1))] rfl ?_
          rintro s h4
          refine .nsq ?_
          refine .ret ?_
          have hr := Option.some.inj h
          subst hr
          exact rrA (res_tmp h4) rfl
        · refine .skip ?_
          refine .nsq ?_
          refine .seq ?_
          refine run_reg ?_
          refine e_end ?_
          refine g_v0 (.int .i64 0) rfl rfl ?_
          refine g_end ?_
          refine e_end ?_
          refine renew [(4, (.int .i64 0))] rfl ?_
          rintro s h4
          refine .nsq ?_
          refine .ret ?_
          have hr := Option.some.inj h
          subst hr
          exact rrA (res_tmp h4) rfl
end
def e78 (F : Nat) : Ent := ⟨78, dn2 (cmp_Compare_int F) (fun (r : Int) => (Enc.enc (r : Int))), 0, false⟩
theorem o78 {D : Den} {σ : Sig} {F : Nat} (hF : Fits2 Try.prog D σ) (H : H78 D σ F) : (e78 F).Ok Try.prog := by
  refine ⟨fun args r h => ?_, ⟨Try.f78, Try.func78, rfl, rfl⟩⟩
  obtain ⟨x0, x1, y, rfl, hy, rfl⟩ := dn2_open h
  exact contract_run hF (by kernel_rfl) Try.func78 rfl c78 (show 2 ≤ Try.f78.ntmps by decide) (t78 H x0 x1 _ ⟨rfl, rfl⟩ hy)
/- slices.Compare[[]int,int] -/
def A61_5 : AC := (AC.cond (O.t 19) (AC.seq (AC.reg [] [(I.mk (some 4) none false (X.v (A.mov (O.k (V.int IntKind.i64 (Int.ofNat 1))))))] []) AC.ret) AC.skip)
def A61_9 : AC := (AC.cond (O.t 28) (AC.seq (AC.reg [] [(I.mk (some 29) none false (X.v (A.mov (O.t 8)))), (I.mk (some 4) none false (X.v (A.mov (O.t 29))))] []) AC.ret) AC.skip)
def A61_8 : AC := (AC.seq (AC.reg [] [(I.mk (some 27) none false (X.v (A.mov (O.t 8)))), (I.mk (some 28) none false (X.v (A.bin BinOp.neq (O.t 27) (O.k (V.int IntKind.i64 (Int.ofNat 0))))))] []) A61_9)
def A61_7 : AC := (AC.seq (AC.reg [] [(I.mk (some 24) none false (X.v (A.mov (O.t 6)))), (I.mk (some 25) none false (X.v (A.mov (O.t 7)))), (I.mk (some 26) none false (X.call (O.k (V.fn 78 [] [])) [(O.t 24), (O.t 25)])), (I.mk (some 8) none false (X.v (A.mov (O.t 26))))] []) A61_8)
def A61_6 : AC := (AC.seq (AC.reg [] [(I.mk (some 20) none false (X.v (A.mov (O.t 1)))), (I.mk (some 21) none false (X.v (A.mov (O.t 5)))), (I.mk (some 22) none false (X.v (A.idx (O.t 20) (O.t 21) 1))), (I.mk (some 23) none false (X.v (A.load Sh.s (O.t 22)))), (I.mk (some 7) none false (X.v (A.mov (O.t 23))))] []) A61_7)
def A61_4 : AC := (AC.seq (AC.seq (AC.reg [] [(I.mk (some 16) none false (X.v (A.mov (O.t 5)))), (I.mk (some 17) none false (X.v (A.mov (O.t 1)))), (I.mk (some 18) none false (X.v (A.len (O.t 17)))), (I.mk (some 19) none false (X.v (A.bin BinOp.geq (O.t 16) (O.t 18))))] []) A61_5) A61_6)
def A61_10 : AC := (AC.reg [] [(I.mk (some 30) none false (X.v (A.bin BinOp.add (O.t 11) (O.k (V.int IntKind.i64 (Int.ofNat 1)))))), (I.mk (some 11) none false (X.v (A.mov (O.t 30))))] [])
def A61_3 : AC := (AC.seq (AC.block 1 (AC.seq (AC.reg [] [(I.mk (some 13) none false (X.v (A.mov (O.t 11)))), (I.mk (some 14) none false (X.v (A.idx (O.t 9) (O.t 11) 1))), (I.mk (some 15) none false (X.v (A.load Sh.s (O.t 14)))), (I.mk (some 5) none false (X.v (A.mov (O.t 13)))), (I.mk (some 6) none false (X.v (A.mov (O.t 15))))] []) A61_4)) A61_10)
def A61_2 : AC := (AC.seq (AC.cond (O.t 12) AC.skip (AC.exit 0)) A61_3)
def A61_1 : AC := (AC.seq (AC.reg [] [(I.mk (some 12) none false (X.v (A.bin BinOp.lss (O.t 11) (O.t 10))))] []) A61_2)
def A61_12 : AC := (AC.cond (O.t 35) (AC.seq (AC.reg [] [(I.mk (some 4) none false (X.v (A.mov (O.k (V.int IntKind.i64 (Int.negSucc 0))))))] []) AC.ret) AC.skip)
def A61_13 : AC := (AC.seq (AC.reg [] [(I.mk (some 4) none false (X.v (A.mov (O.k (V.int IntKind.i64 (Int.ofNat 0))))))] []) AC.ret)
def A61_11 : AC := (AC.seq (AC.seq (AC.reg [] [(I.mk (some 31) none false (X.v (A.mov (O.t 0)))), (I.mk (some 32) none false (X.v (A.len (O.t 31)))), (I.mk (some 33) none false (X.v (A.mov (O.t 1)))), (I.mk (some 34) none false (X.v (A.len (O.t 33)))), (I.mk (some 35) none false (X.v (A.bin BinOp.lss (O.t 32) (O.t 34))))] []) A61_12) A61_13)
def A61_15 : AC := (AC.block 0 (AC.loop A61_1))
def A61_14 : AC := (AC.seq (AC.seq (AC.reg [] [(I.mk (some 9) none false (X.v (A.mov (O.t 0)))), (I.mk (some 10) none false (X.v (A.len (O.t 9)))), (I.mk (some 11) none false (X.v (A.mov (O.k (V.int IntKind.i64 (Int.ofNat 0))))))] []) A61_15) A61_11)
def A61 : AC := (AC.seq (AC.reg [] [(I.mk (some 4) none false (X.v (A.mov (O.k (V.int IntKind.i64 (Int.ofNat 0))))))] []) A61_14)
def an61 : List An := []
theorem c61 : cC Try.prog Try.f61.ntmps an61 (Try.f61.body.getD .skip) = some A61 := by rfl
structure H61 (D : Den) (σ : Sig) (F : Nat) : Prop where
  c78 : ∀ x0 x1 r, cmp_Compare_int F x0 x1 = some r → D 78 [Enc.enc x0, Enc.enc x1] = some (Enc.enc (r : Int))
  g78 : σ 78 = some (0, false)
abbrev R61 (r : Int) : (Nat → V) → Prop := RR Try.prog [.tmp 4] 0 false (Enc.enc (r : Int))
section
variable {D : Den} {σ : Sig} {F : Nat} {r : Int}
def slices_Compare_l1 (F : Nat) (s1_1 : (List Int)) (s2_2 : (List Int))  : Nat → Int → Option Int
  | 0, _ => none
  | k + 1, t11_6 =>
    bif decide (t11_6 < (s1_1.length : Int)) then
      (idx s1_1 t11_6).bind fun e_10 =>
      bif decide (t11_6 ≥ (s2_2.length : Int)) then
        some 1
      else
        (idx s2_2 t11_6).bind fun e_11 =>
        (cmp_Compare_int F e_10 e_11).bind fun r_12 =>
        bif (r_12 != 0) then
          some r_12
        else
          (slices_Compare_l1 F s1_1 s2_2 k) (w64 (t11_6 + 1))
    else
      bif decide ((s1_1.length : Int) < (s2_2.length : Int)) then
        some (-1)
      else
        some 0
theorem t_f61_l1 (H : H61 D σ F) (s1_1 : (List Int)) (s2_2 : (List Int))  : ∀ (k : Nat) (t11_6 : Int) (s : Nat → V), Facts [(0, (Enc.enc (s1_1 : List Int))), (1, (Enc.enc (s2_2 : List Int))), (4, (.int .i64 0)), (9, (Enc.enc (s1_1 : List Int))), (10, (.int .i64 (s1_1.length : Int))), (11, (.int .i64 t11_6))] s → slices_Compare_l1 F s1_1 s2_2 k t11_6 = some r → Run D σ (R61 r) (.run A61_1 [.lp A61_1, .bk 0, .sq A61_11]) s := by
  intro k
  induction k with
  | zero => intro t11_6 s _ h; exact nomatch (h : (none : Option _) = some r)
  | succ k ih =>
    intro t11_6 s hs h
    rw [slices_Compare_l1] at h
    obtain ⟨h0, h1, h4, h9, h10, h11⟩ := hs
    refine .seq ?_
    refine run_reg ?_
    refine e_end ?_
    refine g_v2 (t1 := 11) (t2 := 10) (u1 := (.int .i64 t11_6)) (u2 := (.int .i64 (s1_1.length : Int))) (.bool (decide (t11_6 < (s1_1.length : Int)))) h11 h10 rfl rfl ?_
    refine g_end ?_
    refine e_end ?_
    refine renew [(0, (Enc.enc (s1_1 : List Int))), (1, (Enc.enc (s2_2 : List Int))), (4, (.int .i64 0)), (9, (Enc.enc (s1_1 : List Int))), (10, (.int .i64 (s1_1.length : Int))), (11, (.int .i64 t11_6)), (12, (.bool (decide (t11_6 < (s1_1.length : Int)))))] ⟨h0, h1, h4, h9, h10, h11, rfl⟩ ?_
    rintro s ⟨h0, h1, h4, h9, h10, h11, h12⟩
    refine .nsq ?_
    refine .seq ?_
    refine run_cond (t := decide (t11_6 < (s1_1.length : Int))) h12 h (fun h => ?_) (fun h => ?_)
    · refine .skip ?_
      refine .nsq ?_
      refine .seq ?_
      refine .block ?_
      refine .seq ?_
      refine run_reg ?_
      refine e_end ?_
      refine g_v1 (t := 11) (u := (.int .i64 t11_6)) (.int .i64 t11_6) h11 rfl rfl ?_
      obtain ⟨e_10, E_e_10, h⟩ := bind_some h
      refine g_v (.ref .sh 0 [] (.int .i64 e_10)) (ev_idx (t := .sh) (lo := 0) (xs := s1_1) h9 h11 E_e_10 rfl rfl) ?_
      refine g_v1 (t := 14) (u := (.ref .sh 0 [] (.int .i64 e_10))) (.int .i64 e_10) rfl rfl rfl ?_
      refine g_v1 (t := 13) (u := (.int .i64 t11_6)) (.int .i64 t11_6) rfl rfl rfl ?_
      refine g_v1 (t := 15) (u := (.int .i64 e_10)) (.int .i64 e_10) rfl rfl rfl ?_
      refine g_end ?_
      refine e_end ?_
      refine renew [(0, (Enc.enc (s1_1 : List Int))), (1, (Enc.enc (s2_2 : List Int))), (4, (.int .i64 0)), (5, (.int .i64 t11_6)), (6, (.int .i64 e_10)), (9, (Enc.enc (s1_1 : List Int))), (10, (.int .i64 (s1_1.length : Int))), (11, (.int .i64 t11_6))] ⟨h0, h1, h4, rfl, rfl, h9, h10, h11⟩ ?_
      rintro s ⟨h0, h1, h4, h5, h6, h9, h10, h11⟩
      refine .nsq ?_
      refine .seq ?_
      refine .seq ?_
      refine run_reg ?_
      refine e_end ?_
      refine g_v1 (t := 5) (u := (.int .i64 t11_6)) (.int .i64 t11_6) h5 rfl rfl ?_
      refine g_v1 (t := 1) (u := (Enc.enc (s2_2 : List Int))) (Enc.enc (s2_2 : List Int)) h1 rfl rfl ?_
      refine g_v (.int .i64 (s2_2.length : Int)) (ev_len (xs := s2_2) rfl) ?_
      refine g_v2 (t1 := 16) (t2 := 18) (u1 := (.int .i64 t11_6)) (u2 := (.int .i64 (s2_2.length : Int))) (.bool (decide (t11_6 ≥ (s2_2.length : Int)))) rfl rfl rfl rfl ?_
      refine g_end ?_
      refine e_end ?_
      refine renew [(0, (Enc.enc (s1_1 : List Int))), (1, (Enc.enc (s2_2 : List Int))), (4, (.int .i64 0)), (5, (.int .i64 t11_6)), (6, (.int .i64 e_10)), (9, (Enc.enc (s1_1 : List Int))), (10, (.int .i64 (s1_1.length : Int))), (11, (.int .i64 t11_6)), (19, (.bool (decide (t11_6 ≥ (s2_2.length : Int)))))] ⟨h0, h1, h4, h5, h6, h9, h10, h11, rfl⟩ ?_
      rintro s ⟨h0, h1, h4, h5, h6, h9, h10, h11, h19⟩
      refine .nsq ?_
      refine run_cond (t := decide (t11_6 ≥ (s2_2.length : Int))) h19 h (fun h => ?_) (fun h => ?_)
      · refine .seq ?_
        refine run_reg ?_
        refine e_end ?_
        refine g_v0 (.int .i64 1) rfl rfl ?_
        refine g_end ?_
        refine e_end ?_
        refine renew [(0, (Enc.enc (s1_1 : List Int))), (1, (Enc.enc (s2_2 : List Int))), (4, (.int .i64 1)), (5, (.int .i64 t11_6)), (6, (.int .i64 e_10)), (9, (Enc.enc (s1_1 : List Int))), (10, (.int .i64 (s1_1.length : Int))), (11, (.int .i64 t11_6))] ⟨h0, h1, rfl, h5, h6, h9, h10, h11⟩ ?_
        rintro s ⟨h0, h1, h4, h5, h6, h9, h10, h11⟩
        refine .nsq ?_
        refine .ret ?_
        have hr := Option.some.inj h
        subst hr
        exact rrA (res_tmp h4) rfl
      · refine .skip ?_
        refine .nsq ?_
        refine .seq ?_
        refine run_reg ?_
        refine e_end ?_
        refine g_v1 (t := 1) (u := (Enc.enc (s2_2 : List Int))) (Enc.enc (s2_2 : List Int)) h1 rfl rfl ?_
        refine g_v1 (t := 5) (u := (.int .i64 t11_6)) (.int .i64 t11_6) h5 rfl rfl ?_
        obtain ⟨e_11, E_e_11, h⟩ := bind_some h
        refine g_v (.ref .sh 0 [] (.int .i64 e_11)) (ev_idx (t := .sh) (lo := 0) (xs := s2_2) rfl rfl E_e_11 rfl rfl) ?_
        refine g_v1 (t := 22) (u := (.ref .sh 0 [] (.int .i64 e_11))) (.int .i64 e_11) rfl rfl rfl ?_
        refine g_v1 (t := 23) (u := (.int .i64 e_11)) (.int .i64 e_11) rfl rfl rfl ?_
        refine g_end ?_
        refine e_end ?_
        refine renew [(0, (Enc.enc (s1_1 : List Int))), (1, (Enc.enc (s2_2 : List Int))), (4, (.int .i64 0)), (6, (.int .i64 e_10)), (7, (.int .i64 e_11)), (9, (Enc.enc (s1_1 : List Int))), (10, (.int .i64 (s1_1.length : Int))), (11, (.int .i64 t11_6))] ⟨h0, h1, h4, h6, rfl, h9, h10, h11⟩ ?_
        rintro s ⟨h0, h1, h4, h6, h7, h9, h10, h11⟩
        refine .nsq ?_
        refine .seq ?_
        refine run_reg ?_
        refine e_end ?_
        refine g_v1 (t := 6) (u := (.int .i64 e_10)) (.int .i64 e_10) h6 rfl rfl ?_
        refine g_v1 (t := 7) (u := (.int .i64 e_11)) (.int .i64 e_11) h7 rfl rfl ?_
        obtain ⟨r_12, E_r_12, h⟩ := bind_some h
        refine g_call (m := 0) (al := false) (r := (Enc.enc (r_12 : Int))) [Enc.enc (e_10 : Int), Enc.enc (e_11 : Int)] (ta_cons (v := (.int .i64 e_10)) rfl rfl rfl (ta_cons (v := (.int .i64 e_11)) rfl rfl rfl ta_nil)) (H.c78 _ _ _ E_r_12) H.g78 rfl rfl rfl rfl ?_
        refine g_v1 (t := 26) (u := (.int .i64 r_12)) (.int .i64 r_12) rfl rfl rfl ?_
        refine g_end ?_
        refine e_end ?_
        refine renew [(0, (Enc.enc (s1_1 : List Int))), (1, (Enc.enc (s2_2 : List Int))), (4, (.int .i64 0)), (8, (.int .i64 r_12)), (9, (Enc.enc (s1_1 : List Int))), (10, (.int .i64 (s1_1.length : Int))), (11, (.int .i64 t11_6))] ⟨h0, h1, h4, rfl, h9, h10, h11⟩ ?_
        rintro s ⟨h0, h1, h4, h8, h9, h10, h11⟩
        refine .nsq ?_
        refine .seq ?_
        refine run_reg ?_
        refine e_end ?_
        refine g_v1 (t := 8) (u := (.int .i64 r_12)) (.int .i64 r_12) h8 rfl rfl ?_
        refine g_v1 (t := 27) (u := (.int .i64 r_12)) (.bool (r_12 != 0)) rfl rfl rfl ?_
        refine g_end ?_
        refine e_end ?_
        refine renew [(0, (Enc.enc (s1_1 : List Int))), (1, (Enc.enc (s2_2 : List Int))), (4, (.int .i64 0)), (8, (.int .i64 r_12)), (9, (Enc.enc (s1_1 : List Int))), (10, (.int .i64 (s1_1.length : Int))), (11, (.int .i64 t11_6)), (28, (.bool (r_12 != 0)))] ⟨h0, h1, h4, h8, h9, h10, h11, rfl⟩ ?_
        rintro s ⟨h0, h1, h4, h8, h9, h10, h11, h28⟩
        refine .nsq ?_
        refine run_cond (t := (r_12 != 0)) h28 h (fun h => ?_) (fun h => ?_)
        · refine .seq ?_
          refine run_reg ?_
          refine e_end ?_
          refine g_v1 (t := 8) (u := (.int .i64 r_12)) (.int .i64 r_12) h8 rfl rfl ?_
          refine g_v1 (t := 29) (u := (.int .i64 r_12)) (.int .i64 r_12) rfl rfl rfl ?_
          refine g_end ?_
          refine e_end ?_
          refine renew [(0, (Enc.enc (s1_1 : List Int))), (1, (Enc.enc (s2_2 : List Int))), (4, (.int .i64 r_12)), (9, (Enc.enc (s1_1 : List Int))), (10, (.int .i64 (s1_1.length : Int))), (11, (.int .i64 t11_6))] ⟨h0, h1, rfl, h9, h10, h11⟩ ?_
          rintro s ⟨h0, h1, h4, h9, h10, h11⟩
          refine .nsq ?_
          refine .ret ?_
          have hr := Option.some.inj h
          subst hr
          exact rrA (res_tmp h4) rfl
        · refine .skip ?_
          refine .nbk ?_
          refine .nsq ?_
          refine run_reg ?_
          refine e_end ?_
          refine g_v1 (t := 11) (u := (.int .i64 t11_6)) (.int .i64 (w64 (t11_6 + 1))) h11 rfl rfl ?_
          refine g_v1 (t := 30) (u := (.int .i64 (w64 (t11_6 + 1)))) (.int .i64 (w64 (t11_6 + 1))) rfl rfl rfl ?_
          refine g_end ?_
          refine e_end ?_
          refine renew [(0, (Enc.enc (s1_1 : List Int))), (1, (Enc.enc (s2_2 : List Int))), (4, (.int .i64 0)), (9, (Enc.enc (s1_1 : List Int))), (10, (.int .i64 (s1_1.length : Int))), (11, (.int .i64 (w64 (t11_6 + 1))))] ⟨h0, h1, h4, h9, h10, rfl⟩ ?_
          rintro s ⟨h0, h1, h4, h9, h10, h11⟩
          refine .nlp ?_
          exact ih (w64 (t11_6 + 1)) _ ⟨h0, h1, h4, h9, h10, h11⟩ h
    · refine .exit ?_
      refine .esq ?_
      refine .elp ?_
      refine .ebk ?_
      refine .nsq ?_
      refine .seq ?_
      refine .seq ?_
      refine run_reg ?_
      refine e_end ?_
      refine g_v1 (t := 0) (u := (Enc.enc (s1_1 : List Int))) (Enc.enc (s1_1 : List Int)) h0 rfl rfl ?_
      refine g_v (.int .i64 (s1_1.length : Int)) (ev_len (xs := s1_1) rfl) ?_
      refine g_v1 (t := 1) (u := (Enc.enc (s2_2 : List Int))) (Enc.enc (s2_2 : List Int)) h1 rfl rfl ?_
      refine g_v (.int .i64 (s2_2.length : Int)) (ev_len (xs := s2_2) rfl) ?_
      refine g_v2 (t1 := 32) (t2 := 34) (u1 := (.int .i64 (s1_1.length : Int))) (u2 := (.int .i64 (s2_2.length : Int))) (.bool (decide ((s1_1.length : Int) < (s2_2.length : Int)))) rfl rfl rfl rfl ?_
      refine g_end ?_
      refine e_end ?_
      refine renew [(4, (.int .i64 0)), (35, (.bool (decide ((s1_1.length : Int) < (s2_2.length : Int)))))] ⟨h4, rfl⟩ ?_
      rintro s ⟨h4, h35⟩
      refine .nsq ?_
      refine run_cond (t := decide ((s1_1.length : Int) < (s2_2.length : Int))) h35 h (fun h => ?_) (fun h => ?_)
      · refine .seq ?_
        refine run_reg ?_
        refine e_end ?_
        refine g_v0 (.int .i64 (-1)) rfl rfl ?_
        refine g_end ?_
        refine e_end ?_
        refine renew [(4, (.int .i64 (-1)))] rfl ?_
        rintro s h4
        refine .nsq ?_
        refine .ret ?_
        have hr := Option.some.inj h
        subst hr
        exact rrA (res_tmp h4) rfl
      · refine .skip ?_
        refine .nsq ?_
        refine .seq ?_
        refine run_reg ?_
        refine e_end ?_
        refine g_v0 (.int .i64 0) rfl rfl ?_
        refine g_end ?_
        refine e_end ?_
        refine renew [(4, (.int .i64 0))] rfl ?_
        rintro s h4
        refine .nsq ?_
        refine .ret ?_
        have hr := Option.some.inj h
        subst hr
        exact rrA (res_tmp h4) rfl
def slices_Compare (F : Nat) (s1_1 : (List Int)) (s2_2 : (List Int)) : Option Int :=
  slices_Compare_l1 F s1_1 s2_2 F 0
theorem t61 (H : H61 D σ F) (s1_1 : (List Int)) (s2_2 : (List Int)) (s : Nat → V) (hs : Facts [(0, (Enc.enc (s1_1 : List Int))), (1, (Enc.enc (s2_2 : List Int)))] s) (h : slices_Compare F s1_1 s2_2 = some r) : Run D σ (R61 r) (.run A61 []) s := by
  unfold slices_Compare at h
  obtain ⟨h0, h1⟩ := hs
  refine .seq ?_
  refine run_reg ?_
  refine e_end ?_
  refine g_v0 (.int .i64 0) rfl rfl ?_
  refine g_end ?_
  refine e_end ?_
  refine renew [(0, (Enc.enc (s1_1 : List Int))), (1, (Enc.enc (s2_2 : List Int))), (4, (.int .i64 0))] ⟨h0, h1, rfl⟩ ?_
  rintro s ⟨h0, h1, h4⟩
  refine .nsq ?_
  refine .seq ?_
  refine .seq ?_
  refine run_reg ?_
  refine e_end ?_
  refine g_v1 (t := 0) (u := (Enc.enc (s1_1 : List Int))) (Enc.enc (s1_1 : List Int)) h0 rfl rfl ?_
  refine g_v (.int .i64 (s1_1.length : Int)) (ev_len (xs := s1_1) rfl) ?_
  refine g_v0 (.int .i64 0) rfl rfl ?_
  refine g_end ?_
  refine e_end ?_
  refine renew [(0, (Enc.enc (s1_1 : List Int))), (1, (Enc.enc (s2_2 : List Int))), (4, (.int .i64 0)), (9, (Enc.enc (s1_1 : List Int))), (10, (.int .i64 (s1_1.length : Int))), (11, (.int .i64 0))] ⟨h0, h1, h4, rfl, rfl, rfl⟩ ?_
  rintro s ⟨h0, h1, h4, h9, h10, h11⟩
  refine .nsq ?_
  refine .block ?_
  refine .loop ?_
  exact t_f61_l1 H s1_1 s2_2 F 0 _ ⟨h0, h1, h4, h9, h10, h11⟩ h
end
def e61 (F : Nat) : Ent := ⟨61, dn2 (slices_Compare F) (fun (r : Int) => (Enc.enc (r : Int))), 0, false⟩
theorem o61 {D : Den} {σ : Sig} {F : Nat} (hF : Fits2 Try.prog D σ) (H : H61 D σ F) : (e61 F).Ok Try.prog := by
  refine ⟨fun args r h => ?_, ⟨Try.f61, Try.func61, rfl, rfl⟩⟩
  obtain ⟨x0, x1, y, rfl, hy, rfl⟩ := dn2_open h
  exact contract_run hF (by kernel_rfl) Try.func61 rfl c61 (show 2 ≤ Try.f61.ntmps by decide) (t61 H x0 x1 _ ⟨rfl, rfl⟩ hy)
/- loop.example/g01109/impl.IsGraph -/
def A33_5 : AC := (AC.cond (O.t 48) (AC.seq (AC.reg [] [(I.mk (some 2) none false (X.v (A.mov (O.k (V.bool false)))))] []) AC.ret) AC.skip)
def A33_4 : AC := (AC.seq (AC.reg [] [(I.mk (some 17) none false (X.v (A.idxA (O.t 4) (O.k (V.int IntKind.i64 (Int.ofNat 0))) 2 1))), (I.mk (some 18) none false (X.v (A.load Sh.s (O.t 17)))), (I.mk (some 19) none false (X.v (A.bin BinOp.lss (O.t 18) (O.k (V.int IntKind.i64 (Int.ofNat 0)))))), (I.mk (some 20) none false (X.v (A.mov (O.t 19)))), (I.mk (some 21) (some (20, false)) false (X.v (A.idxA (O.t 4) (O.k (V.int IntKind.i64 (Int.ofNat 0))) 2 1))), (I.mk (some 22) (some (20, false)) false (X.v (A.load Sh.s (O.t 21)))), (I.mk (some 23) (some (20, false)) false (X.v (A.idxA (O.t 4) (O.k (V.int IntKind.i64 (Int.ofNat 1))) 2 1))), (I.mk (some 24) (some (20, false)) false (X.v (A.load Sh.s (O.t 23)))), (I.mk (some 25) (some (20, false)) false (X.v (A.bin BinOp.geq (O.t 22) (O.t 24)))), (I.mk (some 26) none false (X.v (A.pick (O.t 20) (O.k (V.bool true)) (O.t 25)))), (I.mk (some 27) none false (X.v (A.mov (O.t 26)))), (I.mk (some 28) (some (27, false)) false (X.v (A.idxA (O.t 4) (O.k (V.int IntKind.i64 (Int.ofNat 1))) 2 1))), (I.mk (some 29) (some (27, false)) false (X.v (A.load Sh.s (O.t 28)))), (I.mk (some 30) (some (27, false)) false (X.v (A.fld (O.t 1) 0 0))), (I.mk (some 31) (some (27, false)) false (X.v (A.load Sh.s (O.t 30)))), (I.mk (some 32) (some (27, false)) false (X.v (A.bin BinOp.geq (O.t 29) (O.t 31)))), (I.mk (some 33) none false (X.v (A.pick (O.t 27) (O.k (V.bool true)) (O.t 32)))), (I.mk (some 34) none false (X.v (A.mov (O.t 33)))), (I.mk (some 35) (some (34, false)) false (X.v (A.mov (O.t 3)))), (I.mk (some 36) (some (34, false)) false (X.v (A.bin BinOp.gtr (O.t 35) (O.k (V.int IntKind.i64 (Int.ofNat 0)))))), (I.mk (some 37) (some (34, false)) false (X.v (A.mov (O.t 36)))), (I.mk (some 38) (some (37, true)) false (X.v (A.fld (O.t 1) 1 1))), (I.mk (some 39) (some (37, true)) false (X.v (A.load Sh.p (O.t 38)))), (I.mk (some 40) (some (37, true)) false (X.v (A.mov (O.t 3)))), (I.mk (some 41) (some (37, true)) false (X.v (A.bin BinOp.sub (O.t 40) (O.k (V.int IntKind.i64 (Int.ofNat 1)))))), (I.mk (some 42) (some (37, true)) false (X.v (A.idx (O.t 39) (O.t 41) 2))), (I.mk (some 43) (some (37, true)) false (X.v (A.sliceA (O.t 42) 2 Sh.s))), (I.mk (some 44) (some (37, true)) false (X.v (A.sliceA (O.t 4) 2 Sh.s))), (I.mk (some 45) (some (37, true)) false (X.call (O.k (V.fn 61 [] [])) [(O.t 43), (O.t 44)])), (I.mk (some 46) (some (37, true)) false (X.v (A.bin BinOp.geq (O.t 45) (O.k (V.int IntKind.i64 (Int.ofNat 0)))))), (I.mk (some 47) (some (34, false)) false (X.v (A.pick (O.t 37) (O.t 46) (O.k (V.bool false))))), (I.mk (some 48) none false (X.v (A.pick (O.t 34) (O.k (V.bool true)) (O.t 47))))] []) A33_5)
def A33_6 : AC := (AC.reg [] [(I.mk (some 49) none false (X.v (A.bin BinOp.add (O.t 12) (O.k (V.int IntKind.i64 (Int.ofNat 1)))))), (I.mk (some 12) none false (X.v (A.mov (O.t 49))))] [])
def A33_3 : AC := (AC.seq (AC.block 1 (AC.seq (AC.reg [.clr [4]] [(I.mk (some 14) none false (X.v (A.mov (O.t 12)))), (I.mk (some 15) none false (X.v (A.idx (O.t 10) (O.t 12) 2))), (I.mk (some 16) none false (X.v (A.load (Sh.ag [Sh.s, Sh.s]) (O.t 15)))), (I.mk (some 4) none false (X.alloc (V.agg [(V.int IntKind.i64 (Int.ofNat 0)), (V.int IntKind.i64 (Int.ofNat 0))]))), (I.mk (some 3) none false (X.v (A.mov (O.t 14)))), (I.mk none none false (X.store (Sh.ag [Sh.s, Sh.s]) (O.t 4) (O.t 16)))] []) A33_4)) A33_6)
def A33_2 : AC := (AC.seq (AC.cond (O.t 13) AC.skip (AC.exit 0)) A33_3)
def A33_1 : AC := (AC.seq (AC.reg [] [(I.mk (some 13) none false (X.v (A.bin BinOp.lss (O.t 12) (O.t 11))))] []) A33_2)
def A33_7 : AC := (AC.seq (AC.reg [] [(I.mk (some 2) none false (X.v (A.mov (O.k (V.bool true)))))] []) AC.ret)
def A33_9 : AC := (AC.cond (O.t 8) (AC.seq (AC.reg [] [(I.mk (some 2) none false (X.v (A.mov (O.k (V.bool false)))))] []) AC.ret) AC.skip)
def A33_11 : AC := (AC.block 0 (AC.loop A33_1))
def A33_10 : AC := (AC.seq (AC.seq (AC.reg [] [(I.mk (some 9) none false (X.v (A.fld (O.t 1) 1 1))), (I.mk (some 10) none false (X.v (A.load Sh.p (O.t 9)))), (I.mk (some 11) none false (X.v (A.len (O.t 10)))), (I.mk (some 12) none false (X.v (A.mov (O.k (V.int IntKind.i64 (Int.ofNat 0))))))] []) A33_11) A33_7)
def A33_8 : AC := (AC.seq (AC.seq (AC.reg [] [(I.mk (some 5) none false (X.v (A.fld (O.t 1) 0 0))), (I.mk (some 6) none false (X.v (A.load Sh.s (O.t 5)))), (I.mk (some 7) none false (X.call (O.k (V.fn 60 [] [])) [(O.t 6), (O.k (V.int IntKind.i64 (Int.ofNat 0))), (O.k (V.int IntKind.i64 (Int.ofNat 8)))])), (I.mk (some 8) none false (X.v (A.un UnOp.not (O.t 7))))] []) A33_9) A33_10)
def A33 : AC := (AC.seq (AC.reg [.clr [1]] [(I.mk (some 1) none false (X.box (O.t 0))), (I.mk (some 2) none false (X.v (A.mov (O.k (V.bool false)))))] []) A33_8)
def an33 : List An := [{ id := 0, pre := [.clr [1]], ep := [] }, { id := 5, pre := [.clr [4]], ep := [] }]
theorem c33 : cC Try.prog Try.f33.ntmps an33 (Try.f33.body.getD .skip) = some A33 := by rfl
structure H33 (D : Den) (σ : Sig) (F : Nat) : Prop where
  c60 : ∀ x0 x1 x2 r, i_within F x0 x1 x2 = some r → D 60 [Enc.enc x0, Enc.enc x1, Enc.enc x2] = some (Enc.enc (r : Bool))
  g60 : σ 60 = some (0, false)
  c61 : ∀ x0 x1 r, slices_Compare F x0 x1 = some r → D 61 [Enc.enc x0, Enc.enc x1] = some (Enc.enc (r : Int))
  g61 : σ 61 = some (0, false)
abbrev R33 (r : Bool) : (Nat → V) → Prop := RR Try.prog [.tmp 2] 0 false (Enc.enc (r : Bool))
section
variable {D : Den} {σ : Sig} {F : Nat} {r : Bool}
def i_IsGraph_j3 (F : Nat) (g_1 : (Int × (List (Int × Int)))) (t12_9 : Int) (c1 : Int → Option Bool) (t48_19 : Bool) : Option Bool :=
  bif t48_19 then
    some false
  else
    c1 (w64 (t12_9 + 1))
theorem t_f33_j3 (H : H33 D σ F) (g_1 : (Int × (List (Int × Int)))) (t12_9 : Int) (c1 : Int → Option Bool) (Hc1 : ∀ (t12_9 : Int) (s : Nat → V), Facts [(1, (.ref (.bx 1) 0 [] (.agg [(.int .i64 g_1.1), (Enc.enc (g_1.2 : List (Int × Int)))]))), (2, (.bool false)), (10, (Enc.enc (g_1.2 : List (Int × Int)))), (11, (.int .i64 (g_1.2.length : Int))), (12, (.int .i64 t12_9))] s → c1 t12_9 = some r → Run D σ (R33 r) (.run A33_1 [.lp A33_1, .bk 0, .sq A33_7]) s) (t48_19 : Bool) (s : Nat → V) (hs : Facts [(1, (.ref (.bx 1) 0 [] (.agg [(.int .i64 g_1.1), (Enc.enc (g_1.2 : List (Int × Int)))]))), (2, (.bool false)), (10, (Enc.enc (g_1.2 : List (Int × Int)))), (11, (.int .i64 (g_1.2.length : Int))), (12, (.int .i64 t12_9)), (48, (.bool t48_19))] s) (h : i_IsGraph_j3 F g_1 t12_9 c1 t48_19 = some r) : Run D σ (R33 r) (.nrm [.sq A33_5, .bk 1, .sq A33_6, .lp A33_1, .bk 0, .sq A33_7]) s := by
  unfold i_IsGraph_j3 at h
  obtain ⟨h1, h2, h10, h11, h12, h48⟩ := hs
  refine .nsq ?_
  refine run_cond (t := t48_19) h48 h (fun h => ?_) (fun h => ?_)
  · refine .seq ?_
    refine run_reg ?_
    refine e_end ?_
    refine g_v0 (.bool false) rfl rfl ?_
    refine g_end ?_
    refine e_end ?_
    refine renew [(1, (.ref (.bx 1) 0 [] (.agg [(.int .i64 g_1.1), (Enc.enc (g_1.2 : List (Int × Int)))]))), (2, (.bool false)), (10, (Enc.enc (g_1.2 : List (Int × Int)))), (11, (.int .i64 (g_1.2.length : Int))), (12, (.int .i64 t12_9))] ⟨h1, rfl, h10, h11, h12⟩ ?_
    rintro s ⟨h1, h2, h10, h11, h12⟩
    refine .nsq ?_
    refine .ret ?_
    have hr := Option.some.inj h
    subst hr
    exact rrA (res_tmp h2) rfl
  · refine .skip ?_
    refine .nbk ?_
    refine .nsq ?_
    refine run_reg ?_
    refine e_end ?_
    refine g_v1 (t := 12) (u := (.int .i64 t12_9)) (.int .i64 (w64 (t12_9 + 1))) h12 rfl rfl ?_
    refine g_v1 (t := 49) (u := (.int .i64 (w64 (t12_9 + 1)))) (.int .i64 (w64 (t12_9 + 1))) rfl rfl rfl ?_
    refine g_end ?_
    refine e_end ?_
    refine renew [(1, (.ref (.bx 1) 0 [] (.agg [(.int .i64 g_1.1), (Enc.enc (g_1.2 : List (Int × Int)))]))), (2, (.bool false)), (10, (Enc.enc (g_1.2 : List (Int × Int)))), (11, (.int .i64 (g_1.2.length : Int))), (12, (.int .i64 (w64 (t12_9 + 1))))] ⟨h1, h2, h10, h11, rfl⟩ ?_
    rintro s ⟨h1, h2, h10, h11, h12⟩
    refine .nlp ?_
    exact Hc1 (w64 (t12_9 + 1)) _ ⟨h1, h2, h10, h11, h12⟩ h
def i_IsGraph_l1 (F : Nat) (g_1 : (Int × (List (Int × Int))))  : Nat → Int → Option Bool
  | 0, _ => none
  | k + 1, t12_9 =>
    bif decide (t12_9 < (g_1.2.length : Int)) then
      (idx g_1.2 t12_9).bind fun e_16 =>
      bif decide (e_16.1 < 0) then
        i_IsGraph_j3 F g_1 t12_9 (i_IsGraph_l1 F g_1 k) true
      else
        bif decide (e_16.1 ≥ e_16.2) then
          i_IsGraph_j3 F g_1 t12_9 (i_IsGraph_l1 F g_1 k) true
        else
          bif decide (e_16.2 ≥ g_1.1) then
            i_IsGraph_j3 F g_1 t12_9 (i_IsGraph_l1 F g_1 k) true
          else
            bif decide (t12_9 > 0) then
              (idx g_1.2 (w64 (t12_9 - 1))).bind fun e_20 =>
              (slices_Compare F [e_20.1, e_20.2] [e_16.1, e_16.2]).bind fun r_21 =>
              i_IsGraph_j3 F g_1 t12_9 (i_IsGraph_l1 F g_1 k) (decide (r_21 ≥ 0))
            else
              i_IsGraph_j3 F g_1 t12_9 (i_IsGraph_l1 F g_1 k) false
    else
      some true
theorem t_f33_l1 (H : H33 D σ F) (g_1 : (Int × (List (Int × Int))))  : ∀ (k : Nat) (t12_9 : Int) (s : Nat → V), Facts [(1, (.ref (.bx 1) 0 [] (.agg [(.int .i64 g_1.1), (Enc.enc (g_1.2 : List (Int × Int)))]))), (2, (.bool false)), (10, (Enc.enc (g_1.2 : List (Int × Int)))), (11, (.int .i64 (g_1.2.length : Int))), (12, (.int .i64 t12_9))] s → i_IsGraph_l1 F g_1 k t12_9 = some r → Run D σ (R33 r) (.run A33_1 [.lp A33_1, .bk 0, .sq A33_7]) s := by
  intro k
  induction k with
  | zero => intro t12_9 s _ h; exact nomatch (h : (none : Option _) = some r)
  | succ k ih =>
    intro t12_9 s hs h
    rw [i_IsGraph_l1] at h
    obtain ⟨h1, h2, h10, h11, h12⟩ := hs
    refine .seq ?_
    refine run_reg ?_
    refine e_end ?_
    refine g_v2 (t1 := 12) (t2 := 11) (u1 := (.int .i64 t12_9)) (u2 := (.int .i64 (g_1.2.length : Int))) (.bool (decide (t12_9 < (g_1.2.length : Int)))) h12 h11 rfl rfl ?_
    refine g_end ?_
    refine e_end ?_
    refine renew [(1, (.ref (.bx 1) 0 [] (.agg [(.int .i64 g_1.1), (Enc.enc (g_1.2 : List (Int × Int)))]))), (2, (.bool false)), (10, (Enc.enc (g_1.2 : List (Int × Int)))), (11, (.int .i64 (g_1.2.length : Int))), (12, (.int .i64 t12_9)), (13, (.bool (decide (t12_9 < (g_1.2.length : Int)))))] ⟨h1, h2, h10, h11, h12, rfl⟩ ?_
    rintro s ⟨h1, h2, h10, h11, h12, h13⟩
    refine .nsq ?_
    refine .seq ?_
    refine run_cond (t := decide (t12_9 < (g_1.2.length : Int))) h13 h (fun h => ?_) (fun h => ?_)
    · refine .skip ?_
      refine .nsq ?_
      refine .seq ?_
      refine .block ?_
      refine .seq ?_
      refine run_reg ?_
      refine e_clr ?_
      refine e_end ?_
      refine g_v1 (t := 12) (u := (.int .i64 t12_9)) (.int .i64 t12_9) (keep_clear (s := s) (pk := [4]) h12 rfl rfl) rfl rfl ?_
      obtain ⟨e_16, E_e_16, h⟩ := bind_some h
      refine g_v (.ref .sh 0 [] (.agg [(.int .i64 e_16.1), (.int .i64 e_16.2)])) (ev_idx (t := .sh) (lo := 0) (xs := g_1.2) (keep_clear (s := s) (pk := [4]) h10 rfl (Enc.map_enc _ (g_1.2 : List (Int × Int)))) (keep_clear (s := s) (pk := [4]) h12 rfl rfl) E_e_16 rfl rfl) ?_
      refine g_v1 (t := 15) (u := (.ref .sh 0 [] (.agg [(.int .i64 e_16.1), (.int .i64 e_16.2)]))) (.agg [(.int .i64 e_16.1), (.int .i64 e_16.2)]) rfl rfl rfl ?_
      refine g_alloc (gone_clear (s := s) (pk := [4]) (t := 4) rfl) ?_
      refine g_v1 (t := 14) (u := (.int .i64 t12_9)) (.int .i64 t12_9) rfl rfl rfl ?_
      refine g_store (.agg [(.int .i64 e_16.1), (.int .i64 e_16.2)]) (rd_of rfl rfl) (rd_of rfl rfl) (by refine ⟨by decide, by decide, rfl, rfl, rfl, ?_⟩; first | rfl | simp [V.toks, V.tokss, Enc.toks_enc]) ?_
      refine g_end ?_
      refine e_end ?_
      refine renew [(1, (.ref (.bx 1) 0 [] (.agg [(.int .i64 g_1.1), (Enc.enc (g_1.2 : List (Int × Int)))]))), (2, (.bool false)), (3, (.int .i64 t12_9)), (4, (.ref (.bx 4) 0 [] (.agg [(.int .i64 e_16.1), (.int .i64 e_16.2)]))), (10, (Enc.enc (g_1.2 : List (Int × Int)))), (11, (.int .i64 (g_1.2.length : Int))), (12, (.int .i64 t12_9))] ⟨(keep_mut (keep_clear (s := s) (pk := [4]) h1 rfl (map_bx rfl (map_agg (maps_cons rfl (maps_cons (Enc.map_enc _ (g_1.2 : List (Int × Int))) maps_nil))))) (mut_ref_ne rfl rfl (mut_agg (muts_cons rfl (muts_cons (Enc.mut_enc _ _ _ _ (g_1.2 : List (Int × Int))) rfl))))), (keep_mut (keep_clear (s := s) (pk := [4]) h2 rfl rfl) rfl), (keep_mut rfl rfl), (keep_mut rfl rfl), (keep_mut (keep_clear (s := s) (pk := [4]) h10 rfl (Enc.map_enc _ (g_1.2 : List (Int × Int)))) (Enc.mut_enc _ _ _ _ (g_1.2 : List (Int × Int)))), (keep_mut (keep_clear (s := s) (pk := [4]) h11 rfl rfl) rfl), (keep_mut (keep_clear (s := s) (pk := [4]) h12 rfl rfl) rfl)⟩ ?_
      rintro s ⟨h1, h2, h3, h4, h10, h11, h12⟩
      refine .nsq ?_
      refine .seq ?_
      refine run_reg ?_
      refine e_end ?_
      refine g_v1 (t := 4) (u := (.ref (.bx 4) 0 [] (.agg [(.int .i64 e_16.1), (.int .i64 e_16.2)]))) (.ref (.bx 4) 0 [0] (.int .i64 e_16.1)) h4 rfl rfl ?_
      refine g_v1 (t := 17) (u := (.ref (.bx 4) 0 [0] (.int .i64 e_16.1))) (.int .i64 e_16.1) rfl rfl rfl ?_
      refine g_v1 (t := 18) (u := (.int .i64 e_16.1)) (.bool (decide (e_16.1 < 0))) rfl rfl rfl ?_
      refine g_v1 (t := 19) (u := (.bool (decide (e_16.1 < 0)))) (.bool (decide (e_16.1 < 0))) rfl rfl rfl ?_
      refine split_on (c := decide (e_16.1 < 0)) h (fun hg4 h => ?_) (fun hg4 h => ?_)
      · refine g_no (Eq.trans (b := .bool (decide (e_16.1 < 0))) rfl (congrArg V.bool hg4)) ?_
        refine g_no (Eq.trans (b := .bool (decide (e_16.1 < 0))) rfl (congrArg V.bool hg4)) ?_
        refine g_no (Eq.trans (b := .bool (decide (e_16.1 < 0))) rfl (congrArg V.bool hg4)) ?_
        refine g_no (Eq.trans (b := .bool (decide (e_16.1 < 0))) rfl (congrArg V.bool hg4)) ?_
        refine g_no (Eq.trans (b := .bool (decide (e_16.1 < 0))) rfl (congrArg V.bool hg4)) ?_
        refine g_v2 (t1 := 20) (t2 := 25) (u1 := (.bool true)) (u2 := (.tup [])) (.bool true) (Eq.trans (b := .bool (decide (e_16.1 < 0))) rfl (congrArg V.bool hg4)) rfl rfl rfl ?_
        refine g_v1 (t := 26) (u := (.bool true)) (.bool true) rfl rfl rfl ?_
        refine g_no rfl ?_
        refine g_no rfl ?_
        refine g_no rfl ?_
        refine g_no rfl ?_
        refine g_no rfl ?_
        refine g_v2 (t1 := 27) (t2 := 32) (u1 := (.bool true)) (u2 := (.tup [])) (.bool true) rfl rfl rfl rfl ?_
        refine g_v1 (t := 33) (u := (.bool true)) (.bool true) rfl rfl rfl ?_
        refine g_no rfl ?_
        refine g_no rfl ?_
        refine g_no rfl ?_
        refine g_skip rfl ?_
        refine g_skip rfl ?_
        refine g_skip rfl ?_
        refine g_skip rfl ?_
        refine g_skip rfl ?_
        refine g_skip rfl ?_
        refine g_skip rfl ?_
        refine g_skip rfl ?_
        refine g_skip rfl ?_
        refine g_no rfl ?_
        refine g_v2 (t1 := 34) (t2 := 47) (u1 := (.bool true)) (u2 := (.tup [])) (.bool true) rfl rfl rfl rfl ?_
        refine g_end ?_
        refine e_end ?_
        refine renew [(1, (.ref (.bx 1) 0 [] (.agg [(.int .i64 g_1.1), (Enc.enc (g_1.2 : List (Int × Int)))]))), (2, (.bool false)), (10, (Enc.enc (g_1.2 : List (Int × Int)))), (11, (.int .i64 (g_1.2.length : Int))), (12, (.int .i64 t12_9)), (48, (.bool true))] ⟨h1, h2, h10, h11, h12, rfl⟩ ?_
        rintro s ⟨h1, h2, h10, h11, h12, h48⟩
        exact t_f33_j3 H g_1 t12_9 (i_IsGraph_l1 F g_1 k) ih true _ ⟨h1, h2, h10, h11, h12, h48⟩ h
      · refine g_yes (Eq.trans (b := .bool (decide (e_16.1 < 0))) rfl (congrArg V.bool hg4)) (g_v1 (t := 4) (u := (.ref (.bx 4) 0 [] (.agg [(.int .i64 e_16.1), (.int .i64 e_16.2)]))) (.ref (.bx 4) 0 [0] (.int .i64 e_16.1)) h4 rfl rfl ?_)
        refine g_yes (Eq.trans (b := .bool (decide (e_16.1 < 0))) rfl (congrArg V.bool hg4)) (g_v1 (t := 21) (u := (.ref (.bx 4) 0 [0] (.int .i64 e_16.1))) (.int .i64 e_16.1) rfl rfl rfl ?_)
        refine g_yes (Eq.trans (b := .bool (decide (e_16.1 < 0))) rfl (congrArg V.bool hg4)) (g_v1 (t := 4) (u := (.ref (.bx 4) 0 [] (.agg [(.int .i64 e_16.1), (.int .i64 e_16.2)]))) (.ref (.bx 4) 0 [1] (.int .i64 e_16.2)) h4 rfl rfl ?_)
        refine g_yes (Eq.trans (b := .bool (decide (e_16.1 < 0))) rfl (congrArg V.bool hg4)) (g_v1 (t := 23) (u := (.ref (.bx 4) 0 [1] (.int .i64 e_16.2))) (.int .i64 e_16.2) rfl rfl rfl ?_)
        refine g_yes (Eq.trans (b := .bool (decide (e_16.1 < 0))) rfl (congrArg V.bool hg4)) (g_v2 (t1 := 22) (t2 := 24) (u1 := (.int .i64 e_16.1)) (u2 := (.int .i64 e_16.2)) (.bool (decide (e_16.1 ≥ e_16.2))) rfl rfl rfl rfl ?_)
        refine g_v2 (t1 := 20) (t2 := 25) (u1 := (.bool false)) (u2 := (.bool (decide (e_16.1 ≥ e_16.2)))) (.bool (decide (e_16.1 ≥ e_16.2))) (Eq.trans (b := .bool (decide (e_16.1 < 0))) rfl (congrArg V.bool hg4)) rfl rfl rfl ?_
        refine g_v1 (t := 26) (u := (.bool (decide (e_16.1 ≥ e_16.2)))) (.bool (decide (e_16.1 ≥ e_16.2))) rfl rfl rfl ?_
        refine split_on (c := decide (e_16.1 ≥ e_16.2)) h (fun hg11 h => ?_) (fun hg11 h => ?_)
        · refine g_no (Eq.trans (b := .bool (decide (e_16.1 ≥ e_16.2))) rfl (congrArg V.bool hg11)) ?_
          refine g_no (Eq.trans (b := .bool (decide (e_16.1 ≥ e_16.2))) rfl (congrArg V.bool hg11)) ?_
          refine g_no (Eq.trans (b := .bool (decide (e_16.1 ≥ e_16.2))) rfl (congrArg V.bool hg11)) ?_
          refine g_no (Eq.trans (b := .bool (decide (e_16.1 ≥ e_16.2))) rfl (congrArg V.bool hg11)) ?_
          refine g_no (Eq.trans (b := .bool (decide (e_16.1 ≥ e_16.2))) rfl (congrArg V.bool hg11)) ?_
          refine g_v2 (t1 := 27) (t2 := 32) (u1 := (.bool true)) (u2 := (.tup [])) (.bool true) (Eq.trans (b := .bool (decide (e_16.1 ≥ e_16.2))) rfl (congrArg V.bool hg11)) rfl rfl rfl ?_
          refine g_v1 (t := 33) (u := (.bool true)) (.bool true) rfl rfl rfl ?_
          refine g_no rfl ?_
          refine g_no rfl ?_
          refine g_no rfl ?_
          refine g_skip rfl ?_
          refine g_skip rfl ?_
          refine g_skip rfl ?_
          refine g_skip rfl ?_
          refine g_skip rfl ?_
          refine g_skip rfl ?_
          refine g_skip rfl ?_
          refine g_skip rfl ?_
          refine g_skip rfl ?_
          refine g_no rfl ?_
          refine g_v2 (t1 := 34) (t2 := 47) (u1 := (.bool true)) (u2 := (.tup [])) (.bool true) rfl rfl rfl rfl ?_
          refine g_end ?_
          refine e_end ?_
          refine renew [(1, (.ref (.bx 1) 0 [] (.agg [(.int .i64 g_1.1), (Enc.enc (g_1.2 : List (Int × Int)))]))), (2, (.bool false)), (10, (Enc.enc (g_1.2 : List (Int × Int)))), (11, (.int .i64 (g_1.2.length : Int))), (12, (.int .i64 t12_9)), (48, (.bool true))] ⟨h1, h2, h10, h11, h12, rfl⟩ ?_
          rintro s ⟨h1, h2, h10, h11, h12, h48⟩
          exact t_f33_j3 H g_1 t12_9 (i_IsGraph_l1 F g_1 k) ih true _ ⟨h1, h2, h10, h11, h12, h48⟩ h
        · refine g_yes (Eq.trans (b := .bool (decide (e_16.1 ≥ e_16.2))) rfl (congrArg V.bool hg11)) (g_v1 (t := 4) (u := (.ref (.bx 4) 0 [] (.agg [(.int .i64 e_16.1), (.int .i64 e_16.2)]))) (.ref (.bx 4) 0 [1] (.int .i64 e_16.2)) h4 rfl rfl ?_)
          refine g_yes (Eq.trans (b := .bool (decide (e_16.1 ≥ e_16.2))) rfl (congrArg V.bool hg11)) (g_v1 (t := 28) (u := (.ref (.bx 4) 0 [1] (.int .i64 e_16.2))) (.int .i64 e_16.2) rfl rfl rfl ?_)
          refine g_yes (Eq.trans (b := .bool (decide (e_16.1 ≥ e_16.2))) rfl (congrArg V.bool hg11)) (g_v1 (t := 1) (u := (.ref (.bx 1) 0 [] (.agg [(.int .i64 g_1.1), (Enc.enc (g_1.2 : List (Int × Int)))]))) (.ref (.bx 1) 0 [0] (.int .i64 g_1.1)) h1 rfl rfl ?_)
          refine g_yes (Eq.trans (b := .bool (decide (e_16.1 ≥ e_16.2))) rfl (congrArg V.bool hg11)) (g_v1 (t := 30) (u := (.ref (.bx 1) 0 [0] (.int .i64 g_1.1))) (.int .i64 g_1.1) rfl rfl rfl ?_)
          refine g_yes (Eq.trans (b := .bool (decide (e_16.1 ≥ e_16.2))) rfl (congrArg V.bool hg11)) (g_v2 (t1 := 29) (t2 := 31) (u1 := (.int .i64 e_16.2)) (u2 := (.int .i64 g_1.1)) (.bool (decide (e_16.2 ≥ g_1.1))) rfl rfl rfl rfl ?_)
          refine g_v2 (t1 := 27) (t2 := 32) (u1 := (.bool false)) (u2 := (.bool (decide (e_16.2 ≥ g_1.1)))) (.bool (decide (e_16.2 ≥ g_1.1))) (Eq.trans (b := .bool (decide (e_16.1 ≥ e_16.2))) rfl (congrArg V.bool hg11)) rfl rfl rfl ?_
          refine g_v1 (t := 33) (u := (.bool (decide (e_16.2 ≥ g_1.1)))) (.bool (decide (e_16.2 ≥ g_1.1))) rfl rfl rfl ?_
          refine split_on (c := decide (e_16.2 ≥ g_1.1)) h (fun hg18 h => ?_) (fun hg18 h => ?_)
          · refine g_no (Eq.trans (b := .bool (decide (e_16.2 ≥ g_1.1))) rfl (congrArg V.bool hg18)) ?_
            refine g_no (Eq.trans (b := .bool (decide (e_16.2 ≥ g_1.1))) rfl (congrArg V.bool hg18)) ?_
            refine g_no (Eq.trans (b := .bool (decide (e_16.2 ≥ g_1.1))) rfl (congrArg V.bool hg18)) ?_
            refine g_skip rfl ?_
            refine g_skip rfl ?_
            refine g_skip rfl ?_
            refine g_skip rfl ?_
            refine g_skip rfl ?_
            refine g_skip rfl ?_
            refine g_skip rfl ?_
            refine g_skip rfl ?_
            refine g_skip rfl ?_
            refine g_no (Eq.trans (b := .bool (decide (e_16.2 ≥ g_1.1))) rfl (congrArg V.bool hg18)) ?_
            refine g_v2 (t1 := 34) (t2 := 47) (u1 := (.bool true)) (u2 := (.tup [])) (.bool true) (Eq.trans (b := .bool (decide (e_16.2 ≥ g_1.1))) rfl (congrArg V.bool hg18)) rfl rfl rfl ?_
            refine g_end ?_
            refine e_end ?_
            refine renew [(1, (.ref (.bx 1) 0 [] (.agg [(.int .i64 g_1.1), (Enc.enc (g_1.2 : List (Int × Int)))]))), (2, (.bool false)), (10, (Enc.enc (g_1.2 : List (Int × Int)))), (11, (.int .i64 (g_1.2.length : Int))), (12, (.int .i64 t12_9)), (48, (.bool true))] ⟨h1, h2, h10, h11, h12, rfl⟩ ?_
            rintro s ⟨h1, h2, h10, h11, h12, h48⟩
            exact t_f33_j3 H g_1 t12_9 (i_IsGraph_l1 F g_1 k) ih true _ ⟨h1, h2, h10, h11, h12, h48⟩ h
          · refine g_yes (Eq.trans (b := .bool (decide (e_16.2 ≥ g_1.1))) rfl (congrArg V.bool hg18)) (g_v1 (t := 3) (u := (.int .i64 t12_9)) (.int .i64 t12_9) h3 rfl rfl ?_)
            refine g_yes (Eq.trans (b := .bool (decide (e_16.2 ≥ g_1.1))) rfl (congrArg V.bool hg18)) (g_v1 (t := 35) (u := (.int .i64 t12_9)) (.bool (decide (t12_9 > 0))) rfl rfl rfl ?_)
            refine g_yes (Eq.trans (b := .bool (decide (e_16.2 ≥ g_1.1))) rfl (congrArg V.bool hg18)) (g_v1 (t := 36) (u := (.bool (decide (t12_9 > 0)))) (.bool (decide (t12_9 > 0))) rfl rfl rfl ?_)
            refine split_on (c := decide (t12_9 > 0)) h (fun hg21 h => ?_) (fun hg21 h => ?_)
            · refine g_yes (Eq.trans (b := .bool (decide (t12_9 > 0))) rfl (congrArg V.bool hg21)) (g_v1 (t := 1) (u := (.ref (.bx 1) 0 [] (.agg [(.int .i64 g_1.1), (Enc.enc (g_1.2 : List (Int × Int)))]))) (.ref (.bx 1) 0 [1] (Enc.enc (g_1.2 : List (Int × Int)))) h1 rfl rfl ?_)
              refine g_yes (Eq.trans (b := .bool (decide (t12_9 > 0))) rfl (congrArg V.bool hg21)) (g_v1 (t := 38) (u := (.ref (.bx 1) 0 [1] (Enc.enc (g_1.2 : List (Int × Int))))) (Enc.enc (g_1.2 : List (Int × Int))) rfl rfl rfl ?_)
              refine g_yes (Eq.trans (b := .bool (decide (t12_9 > 0))) rfl (congrArg V.bool hg21)) (g_v1 (t := 3) (u := (.int .i64 t12_9)) (.int .i64 t12_9) h3 rfl rfl ?_)
              refine g_yes (Eq.trans (b := .bool (decide (t12_9 > 0))) rfl (congrArg V.bool hg21)) (g_v1 (t := 40) (u := (.int .i64 t12_9)) (.int .i64 (w64 (t12_9 - 1))) rfl rfl rfl ?_)
              obtain ⟨e_20, E_e_20, h⟩ := bind_some h
              refine g_yes (Eq.trans (b := .bool (decide (t12_9 > 0))) rfl (congrArg V.bool hg21)) (g_v (.ref .sh 0 [] (.agg [(.int .i64 e_20.1), (.int .i64 e_20.2)])) (ev_idx (t := .sh) (lo := 0) (xs := g_1.2) rfl rfl E_e_20 rfl rfl) ?_)
              refine g_yes (Eq.trans (b := .bool (decide (t12_9 > 0))) rfl (congrArg V.bool hg21)) (g_v1 (t := 42) (u := (.ref .sh 0 [] (.agg [(.int .i64 e_20.1), (.int .i64 e_20.2)]))) (Enc.enc ([e_20.1, e_20.2] : List Int)) rfl rfl rfl ?_)
              refine g_yes (Eq.trans (b := .bool (decide (t12_9 > 0))) rfl (congrArg V.bool hg21)) (g_v1 (t := 4) (u := (.ref (.bx 4) 0 [] (.agg [(.int .i64 e_16.1), (.int .i64 e_16.2)]))) (encO (.bx 4) (.of ([e_16.1, e_16.2] : List Int))) h4 rfl rfl ?_)
              obtain ⟨r_21, E_r_21, h⟩ := bind_some h
              refine g_yes (Eq.trans (b := .bool (decide (t12_9 > 0))) rfl (congrArg V.bool hg21)) (g_call (m := 0) (al := false) (r := (Enc.enc (r_21 : Int))) [Enc.enc ([e_20.1, e_20.2] : (List Int)), Enc.enc ([e_16.1, e_16.2] : (List Int))] (ta_cons (v := (Enc.enc ([e_20.1, e_20.2] : List Int))) rfl rfl (Enc.erase_enc ([e_20.1, e_20.2] : (List Int))) (ta_cons (v := (encO (.bx 4) (.of ([e_16.1, e_16.2] : List Int)))) rfl rfl (erase_encO (o := .of [e_16.1, e_16.2])) ta_nil)) (H.c61 _ _ _ E_r_21) H.g61 rfl rfl rfl rfl ?_)
              refine g_yes (Eq.trans (b := .bool (decide (t12_9 > 0))) rfl (congrArg V.bool hg21)) (g_v1 (t := 45) (u := (.int .i64 r_21)) (.bool (decide (r_21 ≥ 0))) rfl rfl rfl ?_)
              refine g_yes (Eq.trans (b := .bool (decide (e_16.2 ≥ g_1.1))) rfl (congrArg V.bool hg18)) (g_v2 (t1 := 37) (t2 := 46) (u1 := (.bool true)) (u2 := (.bool (decide (r_21 ≥ 0)))) (.bool (decide (r_21 ≥ 0))) (Eq.trans (b := .bool (decide (t12_9 > 0))) rfl (congrArg V.bool hg21)) rfl rfl rfl ?_)
              refine g_v2 (t1 := 34) (t2 := 47) (u1 := (.bool false)) (u2 := (.bool (decide (r_21 ≥ 0)))) (.bool (decide (r_21 ≥ 0))) (Eq.trans (b := .bool (decide (e_16.2 ≥ g_1.1))) rfl (congrArg V.bool hg18)) rfl rfl rfl ?_
              refine g_end ?_
              refine e_end ?_
              refine renew [(1, (.ref (.bx 1) 0 [] (.agg [(.int .i64 g_1.1), (Enc.enc (g_1.2 : List (Int × Int)))]))), (2, (.bool false)), (10, (Enc.enc (g_1.2 : List (Int × Int)))), (11, (.int .i64 (g_1.2.length : Int))), (12, (.int .i64 t12_9)), (48, (.bool (decide (r_21 ≥ 0))))] ⟨h1, h2, h10, h11, h12, rfl⟩ ?_
              rintro s ⟨h1, h2, h10, h11, h12, h48⟩
              exact t_f33_j3 H g_1 t12_9 (i_IsGraph_l1 F g_1 k) ih (decide (r_21 ≥ 0)) _ ⟨h1, h2, h10, h11, h12, h48⟩ h
            · refine g_no (Eq.trans (b := .bool (decide (t12_9 > 0))) rfl (congrArg V.bool hg21)) ?_
              refine g_no (Eq.trans (b := .bool (decide (t12_9 > 0))) rfl (congrArg V.bool hg21)) ?_
              refine g_no (Eq.trans (b := .bool (decide (t12_9 > 0))) rfl (congrArg V.bool hg21)) ?_
              refine g_no (Eq.trans (b := .bool (decide (t12_9 > 0))) rfl (congrArg V.bool hg21)) ?_
              refine g_no (Eq.trans (b := .bool (decide (t12_9 > 0))) rfl (congrArg V.bool hg21)) ?_
              refine g_no (Eq.trans (b := .bool (decide (t12_9 > 0))) rfl (congrArg V.bool hg21)) ?_
              refine g_no (Eq.trans (b := .bool (decide (t12_9 > 0))) rfl (congrArg V.bool hg21)) ?_
              refine g_no (Eq.trans (b := .bool (decide (t12_9 > 0))) rfl (congrArg V.bool hg21)) ?_
              refine g_no (Eq.trans (b := .bool (decide (t12_9 > 0))) rfl (congrArg V.bool hg21)) ?_
              refine g_yes (Eq.trans (b := .bool (decide (e_16.2 ≥ g_1.1))) rfl (congrArg V.bool hg18)) (g_v2 (t1 := 37) (t2 := 46) (u1 := (.bool false)) (u2 := (.tup [])) (.bool false) (Eq.trans (b := .bool (decide (t12_9 > 0))) rfl (congrArg V.bool hg21)) rfl rfl rfl ?_)
              refine g_v2 (t1 := 34) (t2 := 47) (u1 := (.bool false)) (u2 := (.bool false)) (.bool false) (Eq.trans (b := .bool (decide (e_16.2 ≥ g_1.1))) rfl (congrArg V.bool hg18)) rfl rfl rfl ?_
              refine g_end ?_
              refine e_end ?_
              refine renew [(1, (.ref (.bx 1) 0 [] (.agg [(.int .i64 g_1.1), (Enc.enc (g_1.2 : List (Int × Int)))]))), (2, (.bool false)), (10, (Enc.enc (g_1.2 : List (Int × Int)))), (11, (.int .i64 (g_1.2.length : Int))), (12, (.int .i64 t12_9)), (48, (.bool false))] ⟨h1, h2, h10, h11, h12, rfl⟩ ?_
              rintro s ⟨h1, h2, h10, h11, h12, h48⟩
              exact t_f33_j3 H g_1 t12_9 (i_IsGraph_l1 F g_1 k) ih false _ ⟨h1, h2, h10, h11, h12, h48⟩ h
    · refine .exit ?_
      refine .esq ?_
      refine .elp ?_
      refine .ebk ?_
      refine .nsq ?_
      refine .seq ?_
      refine run_reg ?_
      refine e_end ?_
      refine g_v0 (.bool true) rfl rfl ?_
      refine g_end ?_
      refine e_end ?_
      refine renew [(2, (.bool true))] rfl ?_
      rintro s h2
      refine .nsq ?_
      refine .ret ?_
      have hr := Option.some.inj h
      subst hr
      exact rrA (res_tmp h2) rfl
def i_IsGraph (F : Nat) (g_1 : (Int × (List (Int × Int)))) : Option Bool :=
  (i_within F g_1.1 0 8).bind fun r_2 =>
  bif (!r_2) then
    some false
  else
    i_IsGraph_l1 F g_1 F 0
theorem t33 (H : H33 D σ F) (g_1 : (Int × (List (Int × Int)))) (s : Nat → V) (hs : Facts [(0, (.agg [(.int .i64 g_1.1), (Enc.enc (g_1.2 : List (Int × Int)))]))] s) (h : i_IsGraph F g_1 = some r) : Run D σ (R33 r) (.run A33 []) s := by
  unfold i_IsGraph at h
  have h0 := hs
  refine .seq ?_
  refine run_reg ?_
  refine e_clr ?_
  refine e_end ?_
  refine g_box (.agg [(.int .i64 g_1.1), (Enc.enc (g_1.2 : List (Int × Int)))]) (rd_of (keep_clear (s := s) (pk := [1]) h0 rfl (map_agg (maps_cons rfl (maps_cons (Enc.map_enc _ (g_1.2 : List (Int × Int))) maps_nil)))) rfl) (gone_clear (s := s) (pk := [1]) (t := 1) rfl) rfl ?_
  refine g_v0 (.bool false) rfl rfl ?_
  refine g_end ?_
  refine e_end ?_
  refine renew [(1, (.ref (.bx 1) 0 [] (.agg [(.int .i64 g_1.1), (Enc.enc (g_1.2 : List (Int × Int)))]))), (2, (.bool false))] ⟨rfl, rfl⟩ ?_
  rintro s ⟨h1, h2⟩
  refine .nsq ?_
  refine .seq ?_
  refine .seq ?_
  refine run_reg ?_
  refine e_end ?_
  refine g_v1 (t := 1) (u := (.ref (.bx 1) 0 [] (.agg [(.int .i64 g_1.1), (Enc.enc (g_1.2 : List (Int × Int)))]))) (.ref (.bx 1) 0 [0] (.int .i64 g_1.1)) h1 rfl rfl ?_
  refine g_v1 (t := 5) (u := (.ref (.bx 1) 0 [0] (.int .i64 g_1.1))) (.int .i64 g_1.1) rfl rfl rfl ?_
  obtain ⟨r_2, E_r_2, h⟩ := bind_some h
  refine g_call (m := 0) (al := false) (r := (Enc.enc (r_2 : Bool))) [Enc.enc (g_1.1 : Int), Enc.enc (0 : Int), Enc.enc (8 : Int)] (ta_cons (v := (.int .i64 g_1.1)) rfl rfl rfl (ta_cons (v := (.int .i64 0)) rfl rfl rfl (ta_cons (v := (.int .i64 8)) rfl rfl rfl ta_nil))) (H.c60 _ _ _ _ E_r_2) H.g60 rfl rfl rfl rfl ?_
  refine g_v1 (t := 7) (u := (.bool r_2)) (.bool (!r_2)) rfl rfl rfl ?_
  refine g_end ?_
  refine e_end ?_
  refine renew [(1, (.ref (.bx 1) 0 [] (.agg [(.int .i64 g_1.1), (Enc.enc (g_1.2 : List (Int × Int)))]))), (2, (.bool false)), (8, (.bool (!r_2)))] ⟨h1, h2, rfl⟩ ?_
  rintro s ⟨h1, h2, h8⟩
  refine .nsq ?_
  refine run_cond (t := (!r_2)) h8 h (fun h => ?_) (fun h => ?_)
  · refine .seq ?_
    refine run_reg ?_
    refine e_end ?_
    refine g_v0 (.bool false) rfl rfl ?_
    refine g_end ?_
    refine e_end ?_
    refine renew [(1, (.ref (.bx 1) 0 [] (.agg [(.int .i64 g_1.1), (Enc.enc (g_1.2 : List (Int × Int)))]))), (2, (.bool false))] ⟨h1, rfl⟩ ?_
    rintro s ⟨h1, h2⟩
    refine .nsq ?_
    refine .ret ?_
    have hr := Option.some.inj h
    subst hr
    exact rrA (res_tmp h2) rfl
  · refine .skip ?_
    refine .nsq ?_
    refine .seq ?_
    refine .seq ?_
    refine run_reg ?_
    refine e_end ?_
    refine g_v1 (t := 1) (u := (.ref (.bx 1) 0 [] (.agg [(.int .i64 g_1.1), (Enc.enc (g_1.2 : List (Int × Int)))]))) (.ref (.bx 1) 0 [1] (Enc.enc (g_1.2 : List (Int × Int)))) h1 rfl rfl ?_
    refine g_v1 (t := 9) (u := (.ref (.bx 1) 0 [1] (Enc.enc (g_1.2 : List (Int × Int))))) (Enc.enc (g_1.2 : List (Int × Int))) rfl rfl rfl ?_
    refine g_v (.int .i64 (g_1.2.length : Int)) (ev_len (xs := g_1.2) rfl) ?_
    refine g_v0 (.int .i64 0) rfl rfl ?_
    refine g_end ?_
    refine e_end ?_
    refine renew [(1, (.ref (.bx 1) 0 [] (.agg [(.int .i64 g_1.1), (Enc.enc (g_1.2 : List (Int × Int)))]))), (2, (.bool false)), (10, (Enc.enc (g_1.2 : List (Int × Int)))), (11, (.int .i64 (g_1.2.length : Int))), (12, (.int .i64 0))] ⟨h1, h2, rfl, rfl, rfl⟩ ?_
    rintro s ⟨h1, h2, h10, h11, h12⟩
    refine .nsq ?_
    refine .block ?_
    refine .loop ?_
    exact t_f33_l1 H g_1 F 0 _ ⟨h1, h2, h10, h11, h12⟩ h
end
def e33 (F : Nat) : Ent := ⟨33, dn1 (i_IsGraph F) (fun (r : Bool) => (Enc.enc (r : Bool))), 0, false⟩
theorem o33 {D : Den} {σ : Sig} {F : Nat} (hF : Fits2 Try.prog D σ) (H : H33 D σ F) : (e33 F).Ok Try.prog := by
  refine ⟨fun args r h => ?_, ⟨Try.f33, Try.func33, rfl, rfl⟩⟩
  obtain ⟨x0, y, rfl, hy, rfl⟩ := dn1_open h
  exact contract_run hF (by kernel_rfl) Try.func33 rfl c33 (show 1 ≤ Try.f33.ntmps by decide) (t33 H x0 _ rfl hy)
end Go.Zq
