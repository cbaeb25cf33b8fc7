/- Functions of the program as typed functions, and that the machine runs as they say (part 5). No further condition. -/
import Derived.Test.YtelahampjnaimacK4
import Derived.Test.YtelahampjnaimacProg
import Derived.Test.YtelahampjnaimacChecked
import Derived.KernelRfl
import Derived.Test.YtelahampjnaimacG4
set_option linter.unusedVariables false
set_option linter.unusedSimpArgs false
namespace Go.Zq
open Go.Proofs
variable {D:Den} {σ:Sig} {F:Nat}
def zs5:AC:=(.seq (rr [jm 5 1,jk 6 5,jv 7 (.fld (.t 2) 0 0),jl 8 7,jv 9 (.bin .eql (.t 6) (.t 8)),jm 10 9,jg 11 10 true (.mov (.t 1)),jg 12 10 true (.fld (.t 2) 0 0),jg 13 10 true (.load .s (.t 12)),jg 14 10 true (.bin .sub (.t 13) (jn 1)),.mk (some 15) (some (10,true)) false (.call (jf 62) [.t 11,jn 0,.t 14]),jv 16 (.pick (.t 10) (.t 15) kf),jm 17 16,jg 18 17 true (.mov (.t 1)),.mk (some 19) (some (17,true)) false (.call (jf 63) [.t 18]),jg 20 17 true (.fld (.t 2) 0 0),jg 21 17 true (.load .s (.t 20)),jg 22 17 true (.bin .shl (jn 1) (.t 21)),jg 23 17 true (.bin .sub (.t 22) (jn 1)),jg 24 17 true (.bin .eql (.t 19) (.t 23)),jv 25 (.pick (.t 17) (.t 24) kf),jm 4 25]) .ret)
def A41:AC:=(.seq (.reg [.clr [2]] [jx 2 (.box (.t 0)),jv 4 (.mov kf)] []) zs5)
def zwj:List An:=[⟨0,[.clr [2]],[],[],[]⟩]
theorem c41:cq Try.prog Try.f41 zwj=some A41:=by kernel_rfl
structure H41 (D:Den) (σ:Sig) (F:Nat):Prop where
 c62:C62 (D 62) F
 g62:σ 62=some (0,false)
 c63:C63 (D 63) F
 g63:σ 63=some (0,false)
abbrev R41 (r:Bool):(Nat→V)→Prop:=RR Try.prog [.tmp 4] 0 false (Enc.enc (r:Bool))
section
variable {r:Bool}
def Zi (F:Nat) (x1:GR) (x2:LI):Option Bool:=
 bif ((x2.length:Int) == x1.1) then
  (Zy F x2 0 (w64 (x1.1 - 1))).bind fun r3=>
  bif r3 then
   (Wt F x2).bind fun r4=>
   (Wc .i64 1 x1.1).bind fun q5=>
   some (r4 == (w64 (q5 - 1)))
  else
   some false
 else
  some false
theorem t41 (H:H41 D σ F) (x1:GR) (x2:LI) (s:Nat→V) (hs:zr [(0,gV x1),(1,eL x2)] s) (h:Zi F x1 x2=some r):Run D σ (R41 r) (.run A41 []) s:=by
 unfold Zi at h
 obtain ⟨h0,h1⟩:=hs
 refine .seq (zw (zW ?_))
 refine ez [(0,_),(1,_),(2,_)] ⟨za h0 rfl mIE,za h1 rfl me,ze rfl⟩ ?_
 rintro s ⟨h0,h1,h2⟩
 refine xn (gV x1) (zB h0 rfl) h2 rfl (g0 (jb false) fun h4=>gq (.nsq (.seq (rg (gm h1 fun h5=>gl x2 h5 fun h6=>g1 2 (.ref (.bx 2) 0 [0] (ji x1.1)) (rf (bG 2 x1)) fun h7=>g1 7 (ji x1.1) h7 fun h8=>g2 6 8 (jb ((x2.length:Int) == x1.1)) h6 h8 fun h9=>gm h9 fun h10=>zX h (fun hg6 h=>?_) (fun hg6 h=>?_))))))
 · refine zp (ct h10 hg6) (gm h1 fun h11=>zp (ct h10 hg6) (g1 2 (.ref (.bx 2) 0 [0] (ji x1.1)) (rf (bG 2 x1)) fun h12=>zp (ct h10 hg6) (g1 12 (ji x1.1) h12 fun h13=>zp (ct h10 hg6) (g1 13 (ji (w64 (x1.1 - 1))) h13 fun h14=>?_))))
   obtain ⟨r3,Er3,h⟩:=zc h
   refine zp (ct h10 hg6) (gcF [eL x2,Enc.enc (0:Int),Enc.enc (w64 (x1.1 - 1):Int)] (zf h11 rfl (Enc.erase_enc (x2:LI)) (zf (v:=ji 0) rfl rfl rfl (zf h14 rfl rfl zC))) (H.c62 _ _ _ _ Er3) H.g62 (g2 10 15 (jb r3) (ct h10 hg6) (rf (jb r3)) fun h16=>gm h16 fun h17=>zX h (fun hg13 h=>?_) (fun hg13 h=>?_)))
   · refine zp (ct h17 hg13) (gm h1 fun h18=>?_)
     obtain ⟨r4,Er4,h⟩:=zc h
     refine zp (ct h17 hg13) (gcF [eL x2] (zf h18 rfl (Enc.erase_enc (x2:LI)) zC) (H.c63 _ _ Er4) H.g63 (zp (ct h17 hg13) (g1 2 (.ref (.bx 2) 0 [0] (ji x1.1)) (rf (bG 2 x1)) fun h20=>zp (ct h17 hg13) (g1 20 (ji x1.1) h20 fun h21=>?_))))
     obtain ⟨q5,Eq5,h⟩:=zc h
     refine zp (ct h17 hg13) (gv (ji q5) (Y9 rfl h21 Eq5) fun h22=>zp (ct h17 hg13) (g1 22 (ji (w64 (q5 - 1))) h22 fun h23=>zp (ct h17 hg13) (g2 19 23 (jb (r4 == (w64 (q5 - 1)))) (rf (ji r4)) h23 fun h24=>g2 17 24 (jb (r4 == (w64 (q5 - 1)))) (ct h17 hg13) h24 fun h25=>gm h25 fun h4=>gq (.nsq (.ret ?_)))))
     obtain rfl:=oi h
     exact rrA (zm h4) rfl
   iterate 7 refine yq (ct h17 hg13) ?_
   refine g2 17 24 (jb false) (ct h17 hg13) (rf (.tup [])) fun h25=>gm h25 fun h4=>gq (.nsq (.ret ?_))
   obtain rfl:=oi h
   exact rrA (zm h4) rfl
 iterate 5 refine yq (ct h10 hg6) ?_
 refine g2 10 15 (jb false) (ct h10 hg6) (rf (.tup [])) fun h16=>gm h16 fun h17=>yq h17 ?_
 iterate 6 refine yq h17 ?_
 refine g2 17 24 (jb false) h17 (rf (.tup [])) fun h25=>gm h25 fun h4=>gq (.nsq (.ret ?_))
 obtain rfl:=oi h
 exact rrA (zm h4) rfl
end
def e41 (F:Nat):Ent:=ent 41 (fun (x:(GR×LI×Unit))=>Zi F x.1 x.2.1) (fun (r:Bool)=>(Enc.enc (r:Bool))) 0 false []
abbrev C41 (D:List V→Option V) (F:Nat):Prop:=∀ (x0:GR) (x1:LI) r,Zi F x0 x1=some r→D [Enc.enc x0,Enc.enc x1]=some (Enc.enc (r:Bool))
theorem p41 {F:Nat}:C41 (e41 F).den F:=fun x0 x1 _ h=>zS (x0,x1,()) h
theorem o41 (hF:zG Try.prog D σ) (H:H41 D σ F):(e41 F).Ok Try.prog:=okZ (f:=41) Try.func41 fun ⟨x0,x1,_⟩ y hy=>cR hF Try.func41 c41 (t41 H x0 x1 _ ⟨rfl,rfl⟩ hy)
def zmE:AC:=(rr [jm 63 9,jm 64 13,jv 65 (.bin .shl (jn 1) (.t 64)),jv 66 (.bin .andNot (.t 63) (.t 65)),jm 9 66])
def znJ:AC:=(.cond (.t 57) (.seq (.reg [.clr [61,62]] [jm 58 7,jm 59 13,jv 60 (.bin .sub (jn (-1)) (.t 59)),jx 61 (.lit i0 1 [(0,0,.t 60)]),jx 62 (.app .s (.t 58) (.t 61)),jm 7 62] [.home 62 7]) zmE) .skip)
def zmr:AC:=(.seq (rr [jv 50 (.fld (.t 6) 0 0),jv 51 (.load .p (.t 50)),jm 52 13,jv 53 (.idx (.t 51) (.t 52) 1),jl 54 53,jm 55 8,jv 56 (.bin .andNot (.t 54) (.t 55)),jv 57 (.bin .eql (.t 56) (jn 0))]) znJ)
def zhS:AC:=(rr [jv 67 (.bin .add (.t 46) (jn 1)),jm 46 67])
def zmH:AC:=(.seq (.block 3 (.seq (rr [jv 48 (.idx (.t 44) (.t 46) 1),jl 49 48,jm 13 49]) zmr)) zhS)
def zms:AC:=(.seq (.cond (.t 47) .skip (.exit 2)) zmH)
def Qg:AC:=(.seq (rr [jv 47 (.bin .lss (.t 46) (.t 45))]) zms)
def zrb:AC:=(.block 2 (.loop Qg))
def zos:AC:=(.seq (rr [jm 43 9,jx 44 (.call (jf 27) [.t 43]),jk 45 44,jv 46 (.mov (jn 0))]) zrb)
def zoS:AC:=(.seq (rr [jm 39 9,jm 40 11,jv 41 (.bin .shl (jn 1) (.t 40)),jv 42 (.bin .or (.t 39) (.t 41)),jm 9 42]) zos)
def zub:AC:=(.seq (rr [jm 35 8,jm 36 11,jv 37 (.bin .shl (jn 1) (.t 36)),jv 38 (.bin .or (.t 35) (.t 37)),jm 8 38]) zoS)
def zp1:AC:=(.seq (.reg [.clr [33,34]] [jm 31 7,jm 32 11,jx 33 (.lit i0 1 [(0,0,.t 32)]),jx 34 (.app .s (.t 31) (.t 33)),jm 7 34] [.home 34 7]) zub)
def QT:AC:=(rr [jv 68 (.bin .add (.t 27) (jn 1)),jm 27 68])
def zqN:AC:=(.seq (.block 1 (.seq (rr [jv 29 (.idx (.t 25) (.t 27) 1),jl 30 29,jm 11 30]) zp1)) QT)
def ztI:AC:=(.seq (.cond (.t 28) .skip (.exit 0)) zqN)
def JW:AC:=(.seq (rr [jv 28 (.bin .lss (.t 27) (.t 26))]) ztI)
def J6:AC:=(.seq (.reg [] [jm 69 7,jm 4 69,jv 5 (.mov kt)] [.home 7 4]) .ret)
def zjx:AC:=(.cond (.t 22) (.seq (rr [jv 4 (.mov (.k (.sl .nl .s 0 []))),jv 5 (.mov kf)]) .ret) .skip)
def znt:AC:=(.block 0 (.loop JW))
def zmv:AC:=(.seq (.seq (rr [jm 25 1,jk 26 25,jv 27 (.mov (jn 0))]) znt) J6)
def zoh:AC:=(.seq (rr [jv 8 (.mov (jn 0)),jv 9 (.mov (jn 0))]) zmv)
def zm7:AC:=(.seq (rr [jv 7 (.mov (.k (.sl .nl .s 0 [])))]) zoh)
def zjG:AC:=(.seq (.reg [.clr [6]] [jv 23 (.load (.ag [.s,.p]) (.t 2)),jx 24 (.call (jf 33) [.t 23]),jx 6 (.alloc (.agg [.sl .nl .s 0 []])),jz (.store (.ag [.p]) (.t 6) (.t 24))] []) zm7)
def zno:AC:=(.seq (.seq (rr [jv 14 (.load (.ag [.s,.p]) (.t 2)),jx 15 (.call (jf 32) [.t 14]),jv 16 (.un .not (.t 15)),jm 17 16,jg 18 17 false (.load (.ag [.s,.p]) (.t 2)),jg 19 17 false (.mov (.t 1)),.mk (some 20) (some (17,false)) false (.call (jf 41) [.t 18,.t 19]),jg 21 17 false (.un .not (.t 20)),jv 22 (.pick (.t 17) kt (.t 21))]) zjx) zjG)
def A20:AC:=(.seq (.reg [.clr [2]] [jx 2 (.box (.t 0)),jv 4 (.mov (.k (.sl .nl .s 0 []))),jv 5 (.mov kf)] []) zno)
def zuT:List An:=[⟨0,[.clr [2]],[],[],[]⟩,⟨3,[.clr [6]],[],[],[]⟩,⟨9,[.clr [33,34]],[],[],[.home 34 7]⟩,⟨16,[.clr [61,62]],[],[],[.home 62 7]⟩,⟨20,[],[],[],[.home 7 4]⟩]
theorem c20:cq Try.prog Try.f20 zuT=some A20:=by kernel_rfl
structure H20 (D:Den) (σ:Sig) (F:Nat):Prop where
 c32:C32 (D 32) F
 g32:σ 32=some (0,false)
 c41:C41 (D 41) F
 g41:σ 41=some (0,false)
 c33:C33 (D 33) F
 g33:σ 33=some (0,false)
 c27:C27 (D 27) F
 g27:σ 27=some (0,false)
abbrev R20 (r:(LI×Bool)):(Nat→V)→Prop:=RR Try.prog [.tmp 4,.tmp 5] 0 false (.tup [eL r.1,Enc.enc (r.2:Bool)])
section
variable {r:(LI×Bool)}
def wP (F:Nat) (r6:(S1 LI)) (x40:Int) (q77:Int) (x2:LI) (x42:Int) (r79:LI) (x90:Int) (c1:(NL Int)→Int→Int→Int→Option (LI×Bool)) (c4:LI→Int→Int→Option (LI×Bool)) (x103:LI) (x104:Int):Option (LI×Bool):=
 c4 x103 x104 (w64 (x90 + 1))
theorem zch (H:H20 D σ F) (r6:(S1 LI)) (x40:Int) (q77:Int) (x2:LI) (x42:Int) (r79:LI) (x90:Int) (c1:(NL Int)→Int→Int→Int→Option (LI×Bool)) (Hc1:∀ (x39:(NL Int)) (x40:Int) (x41:Int) (x42:Int) (s:Nat→V),zr [(4,nI),(5,jb false),(6,.ref (.bx 6) 0 [] (.agg [eL r6.a])),(7,oI 7 [] x39),(8,ji x40),(9,ji x41),(25,eL x2),(26,ji (x2.length:Int)),(27,ji x42)] s→c1 x39 x40 x41 x42=some r→Run D σ (R20 r) (.run JW [.lp JW,.bk 0,.sq J6]) s) (c4:LI→Int→Int→Option (LI×Bool)) (Hc4:∀ (x88:LI) (x89:Int) (x90:Int) (s:Nat→V),zr [(4,nI),(5,jb false),(6,.ref (.bx 6) 0 [] (.agg [eL r6.a])),(7,oI 7 [] (.of x88)),(8,ji (ior .i64 x40 q77)),(9,ji x89),(25,eL x2),(26,ji (x2.length:Int)),(27,ji x42),(44,eL r79),(45,ji (r79.length:Int)),(46,ji x90)] s→c4 x88 x89 x90=some r→Run D σ (R20 r) (.run Qg [.lp Qg,.bk 2,.bk 1,.sq QT,.lp JW,.bk 0,.sq J6]) s) (x103:LI) (x104:Int) (s:Nat→V) (hs:zr [(4,nI),(5,jb false),(6,.ref (.bx 6) 0 [] (.agg [eL r6.a])),(7,oI 7 [] (.of x103)),(8,ji (ior .i64 x40 q77)),(9,ji x104),(25,eL x2),(26,ji (x2.length:Int)),(27,ji x42),(44,eL r79),(45,ji (r79.length:Int)),(46,ji x90)] s) (h:wP F r6 x40 q77 x2 x42 r79 x90 c1 c4 x103 x104=some r):Run D σ (R20 r) (.nrm [.bk 3,.sq zhS,.lp Qg,.bk 2,.bk 1,.sq QT,.lp JW,.bk 0,.sq J6]) s:=by
 unfold wP at h
 obtain ⟨h4,h5,h6,h7,h8,h9,h25,h26,h27,h44,h45,h46⟩:=hs
 refine .nbk (.nsq (rg (g1 46 (ji (w64 (x90 + 1))) h46 fun h67=>gm h67 fun h46=>gq (.nlp ?_))))
 exact Hc4 x103 x104 (w64 (x90 + 1)) _ ⟨h4,h5,h6,h7,h8,h9,h25,h26,h27,h44,h45,h46⟩ h
def yX (F:Nat) (r6:(S1 LI)) (x40:Int) (q77:Int) (x2:LI) (x42:Int) (r79:LI) (c1:(NL Int)→Int→Int→Int→Option (LI×Bool)):Nat→LI→Int→Int→Option (LI×Bool)
 | 0,_,_,_=>none
 | k + 1,x88,x89,x90=>
   bif decide (x90 < (r79.length:Int)) then
    (idx r79 x90).bind fun v99=>
    (idx r6.a v99).bind fun v100=>
    bif ((yS .i64 v100 (ior .i64 x40 q77)) == 0) then
     (vz x88 [w64 ((-1) - v99)]).bind fun ap105=>
     (Wc .i64 1 v99).bind fun q106=>
     wP F r6 x40 q77 x2 x42 r79 x90 c1 (yX F r6 x40 q77 x2 x42 r79 c1 k) ap105 (yS .i64 x89 q106)
    else
     wP F r6 x40 q77 x2 x42 r79 x90 c1 (yX F r6 x40 q77 x2 x42 r79 c1 k) x88 x89
   else
    c1 (.of x88) (ior .i64 x40 q77) x89 (w64 (x42 + 1))
theorem zi9 (H:H20 D σ F) (r6:(S1 LI)) (x40:Int) (q77:Int) (x2:LI) (x42:Int) (r79:LI) (c1:(NL Int)→Int→Int→Int→Option (LI×Bool)) (Hc1:∀ (x39:(NL Int)) (x40:Int) (x41:Int) (x42:Int) (s:Nat→V),zr [(4,nI),(5,jb false),(6,.ref (.bx 6) 0 [] (.agg [eL r6.a])),(7,oI 7 [] x39),(8,ji x40),(9,ji x41),(25,eL x2),(26,ji (x2.length:Int)),(27,ji x42)] s→c1 x39 x40 x41 x42=some r→Run D σ (R20 r) (.run JW [.lp JW,.bk 0,.sq J6]) s):∀ (k:Nat) (x88:LI) (x89:Int) (x90:Int) (s:Nat→V),zr [(4,nI),(5,jb false),(6,.ref (.bx 6) 0 [] (.agg [eL r6.a])),(7,oI 7 [] (.of x88)),(8,ji (ior .i64 x40 q77)),(9,ji x89),(25,eL x2),(26,ji (x2.length:Int)),(27,ji x42),(44,eL r79),(45,ji (r79.length:Int)),(46,ji x90)] s→yX F r6 x40 q77 x2 x42 r79 c1 k x88 x89 x90=some r→Run D σ (R20 r) (.run Qg [.lp Qg,.bk 2,.bk 1,.sq QT,.lp JW,.bk 0,.sq J6]) s:=by
 intro k
 induction k with
 | zero=>intro x88 x89 x90 s _ h;exact nm h
 | succ k ih=>
   intro x88 x89 x90 s hs h
   rw [yX] at h
   obtain ⟨h4,h5,h6,h7,h8,h9,h25,h26,h27,h44,h45,h46⟩:=hs
   refine .seq (rg (g2 46 45 (jb (decide (x90 < (r79.length:Int)))) h46 h45 fun h47=>gq (.nsq (.seq (zn h47 h (fun h=>?_) (fun h=>?_))))))
   · refine .skip (.nsq (.seq (.block (.seq (rg ?_)))))
     obtain ⟨v99,Ev99,h⟩:=zc h
     refine gv (.ref .sh 0 [] (ji v99)) (yg (t:=.sh) (lo:=0) (xs:=r79) h44 h46 Ev99 rfl rfl) fun h48=>g1 48 (ji v99) h48 fun h49=>gm h49 fun h13=>gq (.nsq (.seq (rg (g1 6 (.ref (.bx 6) 0 [0] (eL r6.a)) h6 fun h50=>g1 50 (eL r6.a) h50 fun h51=>gm h13 fun h52=>?_))))
     obtain ⟨v100,Ev100,h⟩:=zc h
     refine gv (.ref .sh 0 [] (ji v100)) (yg (t:=.sh) (lo:=0) (xs:=r6.a) h51 h52 Ev100 rfl rfl) fun h53=>g1 53 (ji v100) h53 fun h54=>gm h8 fun h55=>g2 54 55 (ji (yS .i64 v100 (ior .i64 x40 q77))) h54 h55 fun h56=>g1 56 (jb ((yS .i64 v100 (ior .i64 x40 q77)) == 0)) h56 fun h57=>gq (.nsq (zn h57 h (fun h=>?_) (fun h=>?_)))
     · refine .seq (zw (zW ?_))
       refine ez [(4,_),(5,_),(6,_),(7,_),(8,_),(9,_),(13,_),(25,_),(26,_),(27,_),(44,_),(45,_),(46,_),(61,_),(62,_)] ⟨za h4 rfl rfl,za h5 rfl mb,za h6 rfl (zj rfl (zM (zg me zx))),za h7 rfl (zl (r:=7) (p:=[]) rfl rfl),za h8 rfl mi,za h9 rfl mi,za h13 rfl mi,za h25 rfl me,za h26 rfl mi,za h27 rfl mi,za h44 rfl me,za h45 rfl mi,za h46 rfl mi,ze rfl,ze rfl⟩ ?_
       rintro s ⟨h4,h5,h6,h7,h8,h9,h13,h25,h26,h27,h44,h45,h46,h61,h62⟩
       refine gm h7 fun h58=>gm h13 fun h59=>g1 59 (ji (w64 ((-1) - v99))) h59 fun h60=>xb [(60,ji (w64 ((-1) - v99)))] [Enc.enc (w64 ((-1) - v99):Int)] h60 rfl rfl h61 ?_
       obtain ⟨ap105,Eap105,h⟩:=zc h
       refine Z0 (q:=7) (p:=[]) (o:=.of (x88:LI)) (ys:=([w64 ((-1) - v99)]:LI)) (t2:=.at 61 []) (lo2:=0) h58 rfl rfl h62 (vK (o:=.of (x88:LI)) Eap105 trivial) (fun s64 ha64=>gm (rf (oI 62 [] (.of ap105))) fun h7=>yK (yo (r:=62) (x:=7) (v:=_) h7 rfl (fun s65 hz65=>?_)))
       refine ez [(4,nI),(5,jb false),(6,.ref (.bx 6) 0 [] (.agg [eL r6.a])),(7,oI 7 [] (.of ap105)),(8,ji (ior .i64 x40 q77)),(9,ji x89),(13,ji v99),(25,eL x2),(26,ji (x2.length:Int)),(27,ji x42),(44,eL r79),(45,ji (r79.length:Int)),(46,ji x90)] ⟨hz65 4 _ nI (show s64 4=nI from zy ha64 h4 rfl) rfl,hz65 5 _ _ (show s64 5=(jb false) from zy ha64 h5 mb) mb,hz65 6 _ _ (show s64 6=(.ref (.bx 6) 0 [] (.agg [eL r6.a])) from zy ha64 h6 (zj rfl (zM (zg me zx)))) (zj rfl (zM (zg me zx))),hz65 7 _ _ h7 (zl (r:=62) (p:=[]) rfl rfl),hz65 8 _ _ (show s64 8=(ji (ior .i64 x40 q77)) from zy ha64 h8 mi) mi,hz65 9 _ _ (show s64 9=(ji x89) from zy ha64 h9 mi) mi,hz65 13 _ _ (show s64 13=(ji v99) from zy ha64 h13 mi) mi,hz65 25 _ _ (show s64 25=(eL x2) from zy ha64 h25 me) me,hz65 26 _ _ (show s64 26=(ji (x2.length:Int)) from zy ha64 h26 mi) mi,hz65 27 _ _ (show s64 27=(ji x42) from zy ha64 h27 mi) mi,hz65 44 _ _ (show s64 44=(eL r79) from zy ha64 h44 me) me,hz65 45 _ _ (show s64 45=(ji (r79.length:Int)) from zy ha64 h45 mi) mi,hz65 46 _ _ (show s64 46=(ji x90) from zy ha64 h46 mi) mi⟩ ?_
       rintro s ⟨h4,h5,h6,h7,h8,h9,h13,h25,h26,h27,h44,h45,h46⟩
       refine .nsq (rg (gm h9 fun h63=>gm h13 fun h64=>?_))
       obtain ⟨q106,Eq106,h⟩:=zc h
       refine gv (ji q106) (Y9 rfl h64 Eq106) fun h65=>g2 63 65 (ji (yS .i64 x89 q106)) h63 h65 fun h66=>gm h66 fun h9=>gq ?_
       exact zch H r6 x40 q77 x2 x42 r79 x90 c1 Hc1 (yX F r6 x40 q77 x2 x42 r79 c1 k) ih ap105 (yS .i64 x89 q106) _ ⟨h4,h5,h6,h7,h8,h9,h25,h26,h27,h44,h45,h46⟩ h
     refine .skip ?_
     exact zch H r6 x40 q77 x2 x42 r79 x90 c1 Hc1 (yX F r6 x40 q77 x2 x42 r79 c1 k) ih x88 x89 _ ⟨h4,h5,h6,h7,h8,h9,h25,h26,h27,h44,h45,h46⟩ h
   refine .exit (.esq (.elp (.ebk (.nbk (.nsq (rg (g1 27 (ji (w64 (x42 + 1))) h27 fun h68=>gm h68 fun h27=>gq (.nlp ?_))))))))
   exact Hc1 (.of x88) (ior .i64 x40 q77) x89 (w64 (x42 + 1)) _ ⟨h4,h5,h6,h7,h8,h9,h25,h26,h27⟩ h
def xC (F:Nat) (r6:(S1 LI)) (x2:LI) :Nat→(NL Int)→Int→Int→Int→Option (LI×Bool)
 | 0,_,_,_,_=>none
 | k + 1,x39,x40,x41,x42=>
   bif decide (x42 < (x2.length:Int)) then
    (idx x2 x42).bind fun v75=>
    (vz x39.list [v75]).bind fun ap76=>
    (Wc .i64 1 v75).bind fun q77=>
    (Wc .i64 1 v75).bind fun q78=>
    (Y2 F (ior .i64 x41 q78)).bind fun r79=>
    yX F r6 x40 q77 x2 x42 r79 (xC F r6 x2 k) F ap76 (ior .i64 x41 q78) 0
   else
    some (x39.list,true)
theorem zha (H:H20 D σ F) (r6:(S1 LI)) (x2:LI) :∀ (k:Nat) (x39:(NL Int)) (x40:Int) (x41:Int) (x42:Int) (s:Nat→V),zr [(4,nI),(5,jb false),(6,.ref (.bx 6) 0 [] (.agg [eL r6.a])),(7,oI 7 [] x39),(8,ji x40),(9,ji x41),(25,eL x2),(26,ji (x2.length:Int)),(27,ji x42)] s→xC F r6 x2 k x39 x40 x41 x42=some r→Run D σ (R20 r) (.run JW [.lp JW,.bk 0,.sq J6]) s:=by
 intro k
 induction k with
 | zero=>intro x39 x40 x41 x42 s _ h;exact nm h
 | succ k ih=>
   intro x39 x40 x41 x42 s hs h
   rw [xC] at h
   obtain ⟨h4,h5,h6,h7,h8,h9,h25,h26,h27⟩:=hs
   refine .seq (rg (g2 27 26 (jb (decide (x42 < (x2.length:Int)))) h27 h26 fun h28=>gq (.nsq (.seq (zn h28 h (fun h=>?_) (fun h=>?_))))))
   · refine .skip (.nsq (.seq (.block (.seq (rg ?_)))))
     obtain ⟨v75,Ev75,h⟩:=zc h
     refine gv (.ref .sh 0 [] (ji v75)) (yg (t:=.sh) (lo:=0) (xs:=x2) h25 h27 Ev75 rfl rfl) fun h29=>g1 29 (ji v75) h29 fun h30=>gm h30 fun h11=>gq (.nsq (.seq (zw (zW ?_))))
     refine ez [(4,_),(5,_),(6,_),(7,_),(8,_),(9,_),(11,_),(25,_),(26,_),(27,_),(33,_),(34,_)] ⟨za h4 rfl rfl,za h5 rfl mb,za h6 rfl (zj rfl (zM (zg me zx))),za h7 rfl (zl (r:=7) (p:=[]) rfl rfl),za h8 rfl mi,za h9 rfl mi,za h11 rfl mi,za h25 rfl me,za h26 rfl mi,za h27 rfl mi,ze rfl,ze rfl⟩ ?_
     rintro s ⟨h4,h5,h6,h7,h8,h9,h11,h25,h26,h27,h33,h34⟩
     refine gv (oI 7 [] x39) (W3 h7 Yd) fun h31=>gm h11 fun h32=>xb [(32,ji v75)] [Enc.enc (v75:Int)] h32 rfl rfl h33 ?_
     obtain ⟨ap76,Eap76,h⟩:=zc h
     refine Z0 (q:=7) (p:=[]) (o:=(x39:NL Int)) (ys:=([v75]:LI)) (t2:=.at 33 []) (lo2:=0) h31 rfl rfl h34 (vK (o:=(x39:NL Int)) Eap76 (by split <;> simp)) (fun s46 ha46=>gm (rf (oI 34 [] (.of ap76))) fun h7=>yK (yo (r:=34) (x:=7) (v:=_) h7 rfl (fun s47 hz47=>?_)))
     refine ez [(4,nI),(5,jb false),(6,.ref (.bx 6) 0 [] (.agg [eL r6.a])),(7,oI 7 [] (.of ap76)),(8,ji x40),(9,ji x41),(11,ji v75),(25,eL x2),(26,ji (x2.length:Int)),(27,ji x42)] ⟨hz47 4 _ nI (show s46 4=nI from zy ha46 h4 rfl) rfl,hz47 5 _ _ (show s46 5=(jb false) from zy ha46 h5 mb) mb,hz47 6 _ _ (show s46 6=(.ref (.bx 6) 0 [] (.agg [eL r6.a])) from zy ha46 h6 (zj rfl (zM (zg me zx)))) (zj rfl (zM (zg me zx))),hz47 7 _ _ h7 (zl (r:=34) (p:=[]) rfl rfl),hz47 8 _ _ (show s46 8=(ji x40) from zy ha46 h8 mi) mi,hz47 9 _ _ (show s46 9=(ji x41) from zy ha46 h9 mi) mi,hz47 11 _ _ (show s46 11=(ji v75) from zy ha46 h11 mi) mi,hz47 25 _ _ (show s46 25=(eL x2) from zy ha46 h25 me) me,hz47 26 _ _ (show s46 26=(ji (x2.length:Int)) from zy ha46 h26 mi) mi,hz47 27 _ _ (show s46 27=(ji x42) from zy ha46 h27 mi) mi⟩ ?_
     rintro s ⟨h4,h5,h6,h7,h8,h9,h11,h25,h26,h27⟩
     refine .nsq (.seq (rg (gm h8 fun h35=>gm h11 fun h36=>?_)))
     obtain ⟨q77,Eq77,h⟩:=zc h
     refine gv (ji q77) (Y9 rfl h36 Eq77) fun h37=>g2 35 37 (ji (ior .i64 x40 q77)) h35 h37 fun h38=>gm h38 fun h8=>gq (.nsq (.seq (rg (gm h9 fun h39=>gm h11 fun h40=>?_))))
     obtain ⟨q78,Eq78,h⟩:=zc h
     refine gv (ji q78) (Y9 rfl h40 Eq78) fun h41=>g2 39 41 (ji (ior .i64 x41 q78)) h39 h41 fun h42=>gm h42 fun h9=>gq (.nsq (.seq (rg (gm h9 fun h43=>?_))))
     obtain ⟨r79,Er79,h⟩:=zc h
     refine gcF [Enc.enc (ior .i64 x41 q78:Int)] (zf h43 rfl rfl zC) (H.c27 _ _ Er79) H.g27 (gl r79 rfl fun h45=>g0 (ji 0) fun h46=>gq (.nsq (.block (.loop ?_))))
     exact zi9 H r6 x40 q77 x2 x42 r79 (xC F r6 x2 k) ih F ap76 (ior .i64 x41 q78) 0 _ ⟨h4,h5,h6,h7,h8,h9,h25,h26,h27,rfl,h45,h46⟩ h
   refine .exit (.esq (.elp (.ebk (.nsq (.seq (rg (gv (oI 7 [] x39) (W3 h7 Yd) fun h69=>gv (oI 7 [] x39) (W3 h69 Yd) fun h4=>g0 (jb true) fun h5=>yK (yo (r:=7) (x:=4) (v:=_) h4 Yd (fun s66 hz66=>?_)))))))))
   refine ez [(4,oI 4 [] x39),(5,jb true)] ⟨hz66 4 _ _ h4 (zl (r:=7) (p:=[]) rfl rfl),hz66 5 _ _ h5 mb⟩ ?_
   rintro s ⟨h4,h5⟩
   refine .nsq (.ret ?_)
   obtain rfl:=oi h
   exact rrB (zm h4) (zm h5) (vC (w6 (z7 (wj (o:=x39)) (z7 (xd (x:=(true:Bool))) xJ))) (Y0 (yN (vB rfl) (yN rfl vr))))
def wO (F:Nat) (x2:LI) (x1:GR)  (x5:Bool):Option (LI×Bool):=
 bif x5 then
  some ([],false)
 else
  (ZQ F x1).bind fun r6=>
  xC F r6 x2 F .nil 0 0 0
theorem zbQ (H:H20 D σ F) (x2:LI) (x1:GR)  (x5:Bool) (s:Nat→V) (hs:zr [(1,eL x2),(2,bG 2 x1),(4,nI),(5,jb false),(22,jb x5)] s) (h:wO F x2 x1  x5=some r):Run D σ (R20 r) (.nrm [.sq zjx,.sq zjG]) s:=by
 unfold wO at h
 obtain ⟨h1,h2,h4,h5,h22⟩:=hs
 refine .nsq (zn h22 h (fun h=>?_) (fun h=>?_))
 · refine .seq (rg (g0 nI fun h4=>g0 (jb false) fun h5=>gq (.nsq (.ret ?_))))
   obtain rfl:=oi h
   exact rrB (zm h4) (zm h5) (vC (w6 (z7 (wj (o:=(.nil:NL Int)) (t:=.nl)) (z7 (xd (x:=(false:Bool))) xJ))) (Y0 (yN KN (yN rfl vr))))
 refine .skip (.nsq (.seq (zw (zW ?_))))
 refine ez [(1,_),(2,_),(4,_),(5,_),(6,_)] ⟨za h1 rfl me,za h2 rfl (zj rfl mIE),za h4 rfl rfl,za h5 rfl mb,ze rfl⟩ ?_
 rintro s ⟨h1,h2,h4,h5,h6⟩
 refine g1 2 (gV x1) h2 fun h23=>?_
 obtain ⟨r6,Er6,h⟩:=zc h
 refine gcF [Enc.enc (x1:GR)] (zf h23 rfl (Enc.erase_enc (x1:GR)) zC) (H.c33 _ _ Er6) H.g33 (y9 h6 (z5 (.agg [eL r6.a]) (zB rfl rfl) (zB rfl rfl) (xo (by first | rfl | simp [V.toks,V.tokss,Enc.toks_enc,zY])) (gz [(1,eL x2),(4,nI),(5,jb false),(6,.ref (.bx 6) 0 [] (.agg [eL r6.a]))] ⟨zd h1 uE,zd h4 rfl,zd h5 rfl,zd rfl rfl⟩ ?_)))
 rintro s ⟨h1,h4,h5,h6⟩
 refine .nsq (.seq (rg (g0 nI fun h7=>gq (.nsq (.seq (rg (g0 (ji 0) fun h8=>g0 (ji 0) fun h9=>gq (.nsq (.seq (.seq (rg (gm h1 fun h25=>gl x2 h25 fun h26=>g0 (ji 0) fun h27=>gq (.nsq (.block (.loop ?_)))))))))))))))
 exact zha H r6 x2 F .nil 0 0 0 _ ⟨h4,h5,h6,h7,h8,h9,h25,h26,h27⟩ h
def xB (F:Nat) (x1:GR) (x2:LI):Option (LI×Bool):=
 (vw F x1).bind fun r107=>
 bif (!r107) then
  wO F x2 x1 true
 else
  (Zi F x1 x2).bind fun r108=>
  wO F x2 x1 (!r108)
theorem t20 (H:H20 D σ F) (x1:GR) (x2:LI) (s:Nat→V) (hs:zr [(0,gV x1),(1,eL x2)] s) (h:xB F x1 x2=some r):Run D σ (R20 r) (.run A20 []) s:=by
 unfold xB at h
 obtain ⟨h0,h1⟩:=hs
 refine .seq (zw (zW ?_))
 refine ez [(0,_),(1,_),(2,_)] ⟨za h0 rfl mIE,za h1 rfl me,ze rfl⟩ ?_
 rintro s ⟨h0,h1,h2⟩
 refine xn (gV x1) (zB h0 rfl) h2 rfl (g0 nI fun h4=>g0 (jb false) fun h5=>gq (.nsq (.seq (.seq (rg (g1 2 (gV x1) (rf (bG 2 x1)) fun h14=>?_))))))
 obtain ⟨r107,Er107,h⟩:=zc h
 refine gcF [Enc.enc (x1:GR)] (zf h14 rfl (Enc.erase_enc (x1:GR)) zC) (H.c32 _ _ Er107) H.g32 (g1 15 (jb (!r107)) (rf (jb r107)) fun h16=>gm h16 fun h17=>zX h (fun hg4 h=>?_) (fun hg4 h=>?_))
 · iterate 4 refine yq (ct h17 hg4) ?_
   refine g2 17 21 (jb true) (ct h17 hg4) (rf (.tup [])) fun h22=>gq ?_
   exact zbQ H x2 x1 true _ ⟨h1,rfl,h4,h5,h22⟩ h
 refine zp (ct h17 hg4) (g1 2 (gV x1) (rf (bG 2 x1)) fun h18=>zp (ct h17 hg4) (gm h1 fun h19=>?_))
 obtain ⟨r108,Er108,h⟩:=zc h
 refine zp (ct h17 hg4) (gcF [Enc.enc (x1:GR),eL x2] (zf h18 rfl (Enc.erase_enc (x1:GR)) (zf h19 rfl (Enc.erase_enc (x2:LI)) zC)) (H.c41 _ _ _ Er108) H.g41 (zp (ct h17 hg4) (g1 20 (jb (!r108)) (rf (jb r108)) fun h21=>g2 17 21 (jb (!r108)) (ct h17 hg4) h21 fun h22=>gq ?_)))
 exact zbQ H x2 x1 (!r108) _ ⟨h1,rfl,h4,h5,h22⟩ h
end
def e20 (F:Nat):Ent:=ent 20 (fun (x:(GR×LI×Unit))=>xB F x.1 x.2.1) (fun (r:(LI×Bool))=>(.tup [eL r.1,Enc.enc (r.2:Bool)])) 0 false []
abbrev C20 (D:List V→Option V) (F:Nat):Prop:=∀ (x0:GR) (x1:LI) r,xB F x0 x1=some r→D [Enc.enc x0,Enc.enc x1]=some (.tup [eL r.1,Enc.enc (r.2:Bool)])
theorem p20 {F:Nat}:C20 (e20 F).den F:=fun x0 x1 _ h=>zS (x0,x1,()) h
theorem o20 (hF:zG Try.prog D σ) (H:H20 D σ F):(e20 F).Ok Try.prog:=okZ (f:=20) Try.func20 fun ⟨x0,x1,_⟩ y hy=>cR hF Try.func20 c20 (t20 H x0 x1 _ ⟨rfl,rfl⟩ hy)
def zul:AC:=(rr [jm 39 8,jm 40 10,jv 41 (.bin .shl (jn 1) (.t 40)),jv 42 (.bin .or (.t 39) (.t 41)),jm 8 42])
def zpz:AC:=(.seq (rr [jm 32 7,jm 33 9,jv 34 (.load (.ag [.p]) (.t 6)),jm 35 8,jm 36 10,jx 37 (.call (jf 45) [.t 34,.t 35,.t 36]),jv 38 (.idx (.t 32) (.t 33) 1),jz (.store .s (.t 38) (.t 37))]) zul)
def zpo:AC:=(rr [jv 43 (.bin .add (.t 27) (jn 1)),jm 27 43])
def zo6:AC:=(.seq (.block 1 (.seq (rr [jm 29 27,jv 30 (.idx (.t 25) (.t 27) 1),jl 31 30,jm 9 29,jm 10 31]) zpz)) zpo)
def zuo:AC:=(.seq (.cond (.t 28) .skip (.exit 0)) zo6)
def zjI:AC:=(.seq (rr [jv 28 (.bin .lss (.t 27) (.t 26))]) zuo)
def zlb:AC:=(.seq (.reg [] [jm 44 7,jm 4 44,jv 5 (.mov kt)] [.home 7 4]) .ret)
def zkS:AC:=(.cond (.t 19) (.seq (rr [jv 4 (.mov (.k (.sl .nl .s 0 []))),jv 5 (.mov kf)]) .ret) .skip)
def znm:AC:=(.block 0 (.loop zjI))
def znQ:AC:=(.seq (.seq (rr [jm 25 1,jk 26 25,jv 27 (.mov (jn 0))]) znm) zlb)
def zoe:AC:=(.seq (rr [jv 8 (.mov (jn 0))]) znQ)
def zma:AC:=(.seq (.reg [.clr [24]] [jv 22 (.fld (.t 2) 0 0),jl 23 22,jx 24 (.mk (.t 23) i0 i0),jm 7 24] [.home 24 7]) zoe)
def zla:AC:=(.seq (.reg [.clr [6]] [jv 20 (.load (.ag [.s,.p]) (.t 2)),jx 21 (.call (jf 33) [.t 20]),jx 6 (.alloc (.agg [.sl .nl .s 0 []])),jz (.store (.ag [.p]) (.t 6) (.t 21))] []) zma)
def zmj:AC:=(.seq (.seq (rr [jv 11 (.load (.ag [.s,.p]) (.t 2)),jx 12 (.call (jf 32) [.t 11]),jv 13 (.un .not (.t 12)),jm 14 13,jg 15 14 false (.load (.ag [.s,.p]) (.t 2)),jg 16 14 false (.mov (.t 1)),.mk (some 17) (some (14,false)) false (.call (jf 41) [.t 15,.t 16]),jg 18 14 false (.un .not (.t 17)),jv 19 (.pick (.t 14) kt (.t 18))]) zkS) zla)
def A23:AC:=(.seq (.reg [.clr [2]] [jx 2 (.box (.t 0)),jv 4 (.mov (.k (.sl .nl .s 0 []))),jv 5 (.mov kf)] []) zmj)
def zvy:List An:=[⟨0,[.clr [2]],[],[],[]⟩,⟨3,[.clr [6]],[],[],[]⟩,⟨4,[.clr [24]],[],[],[.home 24 7]⟩,⟨12,[],[],[],[.home 7 4]⟩]
theorem c23:cq Try.prog Try.f23 zvy=some A23:=by kernel_rfl
structure H23 (D:Den) (σ:Sig) (F:Nat):Prop where
 c32:C32 (D 32) F
 g32:σ 32=some (0,false)
 c41:C41 (D 41) F
 g41:σ 41=some (0,false)
 c33:C33 (D 33) F
 g33:σ 33=some (0,false)
 c45:C45 (D 45) F
 g45:σ 45=some (0,false)
abbrev R23 (r:(LI×Bool)):(Nat→V)→Prop:=RR Try.prog [.tmp 4,.tmp 5] 0 false (.tup [eL r.1,Enc.enc (r.2:Bool)])
section
variable {r:(LI×Bool)}
def vQ (F:Nat) (r6:(S1 LI)) (x2:LI) :Nat→LI→Int→Int→Option (LI×Bool)
 | 0,_,_,_=>none
 | k + 1,x12,x13,x14=>
   bif decide (x14 < (x2.length:Int)) then
    (idx x2 x14).bind fun v19=>
    (xE F r6 x13 v19).bind fun r20=>
    (idx x12 x14).bind fun v21=>
    (Wc .i64 1 v19).bind fun q22=>
    (vQ F r6 x2 k) (x12.set x14.toNat r20) (ior .i64 x13 q22) (w64 (x14 + 1))
   else
    some (x12,true)
theorem zi0 (H:H23 D σ F) (r6:(S1 LI)) (x2:LI) :∀ (k:Nat) (x12:LI) (x13:Int) (x14:Int) (s:Nat→V),zr [(4,nI),(5,jb false),(6,.ref (.bx 6) 0 [] (.agg [eL r6.a])),(7,oI 7 [] (.of x12)),(8,ji x13),(25,eL x2),(26,ji (x2.length:Int)),(27,ji x14)] s→vQ F r6 x2 k x12 x13 x14=some r→Run D σ (R23 r) (.run zjI [.lp zjI,.bk 0,.sq zlb]) s:=by
 intro k
 induction k with
 | zero=>intro x12 x13 x14 s _ h;exact nm h
 | succ k ih=>
   intro x12 x13 x14 s hs h
   rw [vQ] at h
   obtain ⟨h4,h5,h6,h7,h8,h25,h26,h27⟩:=hs
   refine .seq (rg (g2 27 26 (jb (decide (x14 < (x2.length:Int)))) h27 h26 fun h28=>gq (.nsq (.seq (zn h28 h (fun h=>?_) (fun h=>?_))))))
   · refine .skip (.nsq (.seq (.block (.seq (rg (gm h27 fun h29=>?_))))))
     obtain ⟨v19,Ev19,h⟩:=zc h
     refine gv (.ref .sh 0 [] (ji v19)) (yg (t:=.sh) (lo:=0) (xs:=x2) h25 h27 Ev19 rfl rfl) fun h30=>g1 30 (ji v19) h30 fun h31=>gm h29 fun h9=>gm h31 fun h10=>gq (.nsq (.seq (rg (gm h7 fun h32=>gm h9 fun h33=>g1 6 (.agg [eL r6.a]) h6 fun h34=>gm h8 fun h35=>gm h10 fun h36=>?_))))
     obtain ⟨r20,Er20,h⟩:=zc h
     refine gcF [Enc.enc (r6:(S1 LI)),Enc.enc (x13:Int),Enc.enc (v19:Int)] (zf h34 rfl (Enc.erase_enc (r6:(S1 LI))) (zf h35 rfl rfl (zf h36 rfl rfl zC))) (H.c45 _ _ _ _ Er20) H.g45 ?_
     obtain ⟨v21,Ev21,h⟩:=zc h
     refine gv (.ref (.at 7 []) x14.toNat [] (ji v21)) (Yg (o:=.of x12) h32 h33 Ev21 rfl) fun h38=>z5 (ji r20) (zB h38 rfl) (zB rfl rfl) (xo (by first | rfl | simp [V.toks,V.tokss,Enc.toks_enc,zY])) (gz [(4,nI),(5,jb false),(6,.ref (.bx 6) 0 [] (.agg [eL r6.a])),(7,_),(8,ji x13),(10,ji v19),(25,eL x2),(26,ji (x2.length:Int)),(27,ji x14)] ⟨zd h4 rfl,zd h5 rfl,zd h6 (zH rfl rfl (yJ (zF uE rfl))),zd h7 Kz,zd h8 rfl,zd h10 rfl,zd h25 uE,zd h26 rfl,zd h27 rfl⟩ ?_)
     rintro s ⟨h4,h5,h6,h7,h8,h10,h25,h26,h27⟩
     refine .nsq (rg (gm h8 fun h39=>gm h10 fun h40=>?_))
     obtain ⟨q22,Eq22,h⟩:=zc h
     refine gv (ji q22) (Y9 rfl h40 Eq22) fun h41=>g2 39 41 (ji (ior .i64 x13 q22)) h39 h41 fun h42=>gm h42 fun h8=>gq (.nbk (.nsq (rg (g1 27 (ji (w64 (x14 + 1))) h27 fun h43=>gm h43 fun h27=>gq (.nlp ?_)))))
     exact ih (x12.set x14.toNat r20) (ior .i64 x13 q22) (w64 (x14 + 1)) _ ⟨h4,h5,h6,h7,h8,h25,h26,h27⟩ h
   refine .exit (.esq (.elp (.ebk (.nsq (.seq (rg (gm h7 fun h44=>gm h44 fun h4=>g0 (jb true) fun h5=>yK (yo (r:=7) (x:=4) (v:=_) h4 rfl (fun s5 hz5=>?_)))))))))
   refine ez [(4,oI 4 [] (.of x12)),(5,jb true)] ⟨hz5 4 _ _ h4 (zl (r:=7) (p:=[]) rfl rfl),hz5 5 _ _ h5 mb⟩ ?_
   rintro s ⟨h4,h5⟩
   refine .nsq (.ret ?_)
   obtain rfl:=oi h
   exact rrB (zm h4) (zm h5) (vC (w6 (z7 (wj (o:=.of x12)) (z7 (xd (x:=(true:Bool))) xJ))) (Y0 (yN (vB rfl) (yN rfl vr))))
def Zb (F:Nat) (x2:LI) (x1:GR)  (x5:Bool):Option (LI×Bool):=
 bif x5 then
  some ([],false)
 else
  (ZQ F x1).bind fun r6=>
  (mkN x1.1 (0:Int)).bind fun mk7=>
  vQ F r6 x2 F mk7 0 0
theorem zb6 (H:H23 D σ F) (x2:LI) (x1:GR)  (x5:Bool) (s:Nat→V) (hs:zr [(1,eL x2),(2,bG 2 x1),(4,nI),(5,jb false),(19,jb x5)] s) (h:Zb F x2 x1  x5=some r):Run D σ (R23 r) (.nrm [.sq zkS,.sq zla]) s:=by
 unfold Zb at h
 obtain ⟨h1,h2,h4,h5,h19⟩:=hs
 refine .nsq (zn h19 h (fun h=>?_) (fun h=>?_))
 · refine .seq (rg (g0 nI fun h4=>g0 (jb false) fun h5=>gq (.nsq (.ret ?_))))
   obtain rfl:=oi h
   exact rrB (zm h4) (zm h5) (vC (w6 (z7 (wj (o:=(.nil:NL Int)) (t:=.nl)) (z7 (xd (x:=(false:Bool))) xJ))) (Y0 (yN KN (yN rfl vr))))
 refine .skip (.nsq (.seq (zw (zW ?_))))
 refine ez [(1,_),(2,_),(4,_),(5,_),(6,_)] ⟨za h1 rfl me,za h2 rfl (zj rfl mIE),za h4 rfl rfl,za h5 rfl mb,ze rfl⟩ ?_
 rintro s ⟨h1,h2,h4,h5,h6⟩
 refine g1 2 (gV x1) h2 fun h20=>?_
 obtain ⟨r6,Er6,h⟩:=zc h
 refine gcF [Enc.enc (x1:GR)] (zf h20 rfl (Enc.erase_enc (x1:GR)) zC) (H.c33 _ _ Er6) H.g33 (y9 h6 (z5 (.agg [eL r6.a]) (zB rfl rfl) (zB rfl rfl) (xo (by first | rfl | simp [V.toks,V.tokss,Enc.toks_enc,zY])) (gz [(1,eL x2),(2,bG 2 x1),(4,nI),(5,jb false),(6,.ref (.bx 6) 0 [] (.agg [eL r6.a]))] ⟨zd h1 uE,zd h2 (zH rfl rfl uIE),zd h4 rfl,zd h5 rfl,zd rfl rfl⟩ ?_)))
 rintro s ⟨h1,h2,h4,h5,h6⟩
 refine .nsq (.seq (zw (zW ?_)))
 refine ez [(1,_),(2,_),(4,_),(5,_),(6,_),(24,_)] ⟨za h1 rfl me,za h2 rfl (zj rfl mIE),za h4 rfl rfl,za h5 rfl mb,za h6 rfl (zj rfl (zM (zg me zx))),ze rfl⟩ ?_
 rintro s ⟨h1,h2,h4,h5,h6,h24⟩
 refine g1 2 (.ref (.bx 2) 0 [0] (ji x1.1)) h2 fun h22=>g1 22 (ji x1.1) h22 fun h23=>?_
 obtain ⟨mk7,Emk7,h⟩:=zc h
 refine znc (0:Int) h23 rfl h24 Emk7 (gm (rf (oI 24 [] (.of mk7))) fun h7=>yK (yo (r:=24) (x:=7) (v:=_) h7 rfl (fun s4 hz4=>?_)))
 refine ez [(1,eL x2),(4,nI),(5,jb false),(6,.ref (.bx 6) 0 [] (.agg [eL r6.a])),(7,oI 7 [] (.of mk7))] ⟨hz4 1 _ _ h1 me,hz4 4 _ _ h4 rfl,hz4 5 _ _ h5 mb,hz4 6 _ _ h6 (zj rfl (zM (zg me zx))),hz4 7 _ _ h7 (zl (r:=24) (p:=[]) rfl rfl)⟩ ?_
 rintro s ⟨h1,h4,h5,h6,h7⟩
 refine .nsq (.seq (rg (g0 (ji 0) fun h8=>gq (.nsq (.seq (.seq (rg (gm h1 fun h25=>gl x2 h25 fun h26=>g0 (ji 0) fun h27=>gq (.nsq (.block (.loop ?_)))))))))))
 exact zi0 H r6 x2 F mk7 0 0 _ ⟨h4,h5,h6,h7,h8,h25,h26,h27⟩ h
def vj (F:Nat) (x1:GR) (x2:LI):Option (LI×Bool):=
 (vw F x1).bind fun r23=>
 bif (!r23) then
  Zb F x2 x1 true
 else
  (Zi F x1 x2).bind fun r24=>
  Zb F x2 x1 (!r24)
theorem t23 (H:H23 D σ F) (x1:GR) (x2:LI) (s:Nat→V) (hs:zr [(0,gV x1),(1,eL x2)] s) (h:vj F x1 x2=some r):Run D σ (R23 r) (.run A23 []) s:=by
 unfold vj at h
 obtain ⟨h0,h1⟩:=hs
 refine .seq (zw (zW ?_))
 refine ez [(0,_),(1,_),(2,_)] ⟨za h0 rfl mIE,za h1 rfl me,ze rfl⟩ ?_
 rintro s ⟨h0,h1,h2⟩
 refine xn (gV x1) (zB h0 rfl) h2 rfl (g0 nI fun h4=>g0 (jb false) fun h5=>gq (.nsq (.seq (.seq (rg (g1 2 (gV x1) (rf (bG 2 x1)) fun h11=>?_))))))
 obtain ⟨r23,Er23,h⟩:=zc h
 refine gcF [Enc.enc (x1:GR)] (zf h11 rfl (Enc.erase_enc (x1:GR)) zC) (H.c32 _ _ Er23) H.g32 (g1 12 (jb (!r23)) (rf (jb r23)) fun h13=>gm h13 fun h14=>zX h (fun hg4 h=>?_) (fun hg4 h=>?_))
 · iterate 4 refine yq (ct h14 hg4) ?_
   refine g2 14 18 (jb true) (ct h14 hg4) (rf (.tup [])) fun h19=>gq ?_
   exact zb6 H x2 x1 true _ ⟨h1,rfl,h4,h5,h19⟩ h
 refine zp (ct h14 hg4) (g1 2 (gV x1) (rf (bG 2 x1)) fun h15=>zp (ct h14 hg4) (gm h1 fun h16=>?_))
 obtain ⟨r24,Er24,h⟩:=zc h
 refine zp (ct h14 hg4) (gcF [Enc.enc (x1:GR),eL x2] (zf h15 rfl (Enc.erase_enc (x1:GR)) (zf h16 rfl (Enc.erase_enc (x2:LI)) zC)) (H.c41 _ _ _ Er24) H.g41 (zp (ct h14 hg4) (g1 17 (jb (!r24)) (rf (jb r24)) fun h18=>g2 14 18 (jb (!r24)) (ct h14 hg4) h18 fun h19=>gq ?_)))
 exact zb6 H x2 x1 (!r24) _ ⟨h1,rfl,h4,h5,h19⟩ h
end
def e23 (F:Nat):Ent:=ent 23 (fun (x:(GR×LI×Unit))=>vj F x.1 x.2.1) (fun (r:(LI×Bool))=>(.tup [eL r.1,Enc.enc (r.2:Bool)])) 0 false []
abbrev C23 (D:List V→Option V) (F:Nat):Prop:=∀ (x0:GR) (x1:LI) r,vj F x0 x1=some r→D [Enc.enc x0,Enc.enc x1]=some (.tup [eL r.1,Enc.enc (r.2:Bool)])
theorem p23 {F:Nat}:C23 (e23 F).den F:=fun x0 x1 _ h=>zS (x0,x1,()) h
theorem o23 (hF:zG Try.prog D σ) (H:H23 D σ F):(e23 F).Ok Try.prog:=okZ (f:=23) Try.func23 fun ⟨x0,x1,_⟩ y hy=>cR hF Try.func23 c23 (t23 H x0 x1 _ ⟨rfl,rfl⟩ hy)
def ztt:AC:=(.cond (.t 8) .skip (.exit 0))
def zr5:AC:=(.cond (.t 16) (rr [jm 17 0,jm 18 4,jv 19 (.idx (.t 17) (.t 18) 1),jl 20 19,jm 3 20]) .skip)
def zlh:AC:=(rr [jm 9 4,jv 10 (.bin .add (.t 9) (jn 1)),jm 4 10])
def ztQ:AC:=(.seq (.block 1 (.seq (rr [jm 11 0,jm 12 4,jv 13 (.idx (.t 11) (.t 12) 1),jl 14 13,jm 15 3,jv 16 (.bin .gtr (.t 14) (.t 15))]) zr5)) zlh)
def NV:AC:=(.seq (.seq (rr [jm 5 4,jm 6 0,jk 7 6,jv 8 (.bin .lss (.t 5) (.t 7))]) ztt) ztQ)
def zf0:AC:=(.seq (rr [jm 21 3,jm 2 21]) .ret)
def ztW:AC:=(.block 0 (.loop NV))
def zpq:AC:=(.seq (.seq (rr [jv 4 (.mov (jn 0))]) ztW) zf0)
def zud:AC:=(.seq (rr [jv 3 (.mov (jn 0))]) zpq)
def A24:AC:=(.seq (rr [jv 2 (.mov (jn 0))]) zud)
def zvv:List An:=[]
theorem c24:cq Try.prog Try.f24 zvv=some A24:=by kernel_rfl
structure H24 (D:Den) (σ:Sig) (F:Nat):Prop where
 mk ::
abbrev R24 (r:Int):(Nat→V)→Prop:=RR Try.prog [.tmp 2] 0 false (Enc.enc (r:Int))
section
variable {r:Int}
def Ws (F:Nat) (x1:LI) (x7:Int) (c1:Int→Int→Option Int) (x14:Int):Option Int:=
 c1 x14 (w64 (x7 + 1))
theorem zcf (H:H24 D σ F) (x1:LI) (x7:Int) (c1:Int→Int→Option Int) (Hc1:∀ (x6:Int) (x7:Int) (s:Nat→V),zr [(0,eL x1),(2,ji 0),(3,ji x6),(4,ji x7)] s→c1 x6 x7=some r→Run D σ (R24 r) (.run NV [.lp NV,.bk 0,.sq zf0]) s) (x14:Int) (s:Nat→V) (hs:zr [(0,eL x1),(2,ji 0),(3,ji x14),(4,ji x7)] s) (h:Ws F x1 x7 c1 x14=some r):Run D σ (R24 r) (.nrm [.bk 1,.sq zlh,.lp NV,.bk 0,.sq zf0]) s:=by
 unfold Ws at h
 obtain ⟨h0,h2,h3,h4⟩:=hs
 refine .nbk (.nsq (rg (gm h4 fun h9=>g1 9 (ji (w64 (x7 + 1))) h9 fun h10=>gm h10 fun h4=>gq (.nlp ?_))))
 exact Hc1 x14 (w64 (x7 + 1)) _ ⟨h0,h2,h3,h4⟩ h
def uo (F:Nat) (x1:LI) :Nat→Int→Int→Option Int
 | 0,_,_=>none
 | k + 1,x6,x7=>
   bif decide (x7 < (x1.length:Int)) then
    (idx x1 x7).bind fun v12=>
    bif decide (v12 > x6) then
     (idx x1 x7).bind fun v15=>
     Ws F x1 x7 (uo F x1 k) v15
    else
     Ws F x1 x7 (uo F x1 k) x6
   else
    some x6
theorem zik (H:H24 D σ F) (x1:LI) :∀ (k:Nat) (x6:Int) (x7:Int) (s:Nat→V),zr [(0,eL x1),(2,ji 0),(3,ji x6),(4,ji x7)] s→uo F x1 k x6 x7=some r→Run D σ (R24 r) (.run NV [.lp NV,.bk 0,.sq zf0]) s:=by
 intro k
 induction k with
 | zero=>intro x6 x7 s _ h;exact nm h
 | succ k ih=>
   intro x6 x7 s hs h
   rw [uo] at h
   obtain ⟨h0,h2,h3,h4⟩:=hs
   refine .seq (.seq (rg (gm h4 fun h5=>gm h0 fun h6=>gl x1 h6 fun h7=>g2 5 7 (jb (decide (x7 < (x1.length:Int)))) h5 h7 fun h8=>gq (.nsq (zn h8 h (fun h=>?_) (fun h=>?_))))))
   · refine .skip (.nsq (.seq (.block (.seq (rg (gm h0 fun h11=>gm h4 fun h12=>?_))))))
     obtain ⟨v12,Ev12,h⟩:=zc h
     refine gv (.ref .sh 0 [] (ji v12)) (yg (t:=.sh) (lo:=0) (xs:=x1) h11 h12 Ev12 rfl rfl) fun h13=>g1 13 (ji v12) h13 fun h14=>gm h3 fun h15=>g2 14 15 (jb (decide (v12 > x6))) h14 h15 fun h16=>gq (.nsq (zn h16 h (fun h=>?_) (fun h=>?_)))
     · refine rg (gm h0 fun h17=>gm h4 fun h18=>?_)
       obtain ⟨v15,Ev15,h⟩:=zc h
       refine gv (.ref .sh 0 [] (ji v15)) (yg (t:=.sh) (lo:=0) (xs:=x1) h17 h18 Ev15 rfl rfl) fun h19=>g1 19 (ji v15) h19 fun h20=>gm h20 fun h3=>gq ?_
       exact zcf H x1 x7 (uo F x1 k) ih v15 _ ⟨h0,h2,h3,h4⟩ h
     refine .skip ?_
     exact zcf H x1 x7 (uo F x1 k) ih x6 _ ⟨h0,h2,h3,h4⟩ h
   refine .exit (.esq (.elp (.ebk (.nsq (.seq (rg (gm h3 fun h21=>gm h21 fun h2=>gq (.nsq (.ret ?_)))))))))
   obtain rfl:=oi h
   exact rrA (zm h2) rfl
def WT (F:Nat) (x1:LI):Option Int:=
 uo F x1 F 0 0
theorem t24 (H:H24 D σ F) (x1:LI) (s:Nat→V) (hs:zr [(0,eL x1)] s) (h:WT F x1=some r):Run D σ (R24 r) (.run A24 []) s:=by
 unfold WT at h
 have h0:=hs
 refine .seq (rg (g0 (ji 0) fun h2=>gq (.nsq (.seq (rg (g0 (ji 0) fun h3=>gq (.nsq (.seq (.seq (rg (g0 (ji 0) fun h4=>gq (.nsq (.block (.loop ?_))))))))))))))
 exact zik H x1 F 0 0 _ ⟨h0,h2,h3,h4⟩ h
end
def e24 (F:Nat):Ent:=ent 24 (fun (x:(LI×Unit))=>WT F x.1) (fun (r:Int)=>(Enc.enc (r:Int))) 0 false []
abbrev C24 (D:List V→Option V) (F:Nat):Prop:=∀ (x0:LI) r,WT F x0=some r→D [Enc.enc x0]=some (Enc.enc (r:Int))
theorem p24 {F:Nat}:C24 (e24 F).den F:=fun x0 _ h=>zS (x0,()) h
theorem o24 (hF:zG Try.prog D σ) (H:H24 D σ F):(e24 F).Ok Try.prog:=okZ (f:=24) Try.func24 fun ⟨x0,_⟩ y hy=>cR hF Try.func24 c24 (t24 H x0 _ rfl hy)
def zpB:AC:=(.cond (.t 259) (.seq (rr [jv 2 (.mov kf)]) .ret) .skip)
def zuy:AC:=(.cond (.t 261) (.seq (rr [jv 2 (.mov kt)]) .ret) .skip)
def zuW:AC:=(.seq (rr [jm 286 37,jm 287 286,jg 288 287 true (.mov (.t 39)),jv 289 (.pick (.t 287) (.t 288) kf),jm 290 289,jg 291 290 true (.mov (.t 41)),jv 292 (.pick (.t 290) (.t 291) kf),jm 293 292,jg 294 293 true (.mov (.t 43)),jv 295 (.pick (.t 293) (.t 294) kf),jm 296 295,jg 297 296 true (.mov (.t 36)),jv 298 (.pick (.t 296) (.t 297) kf),jm 299 298,jg 300 299 true (.mov (.t 38)),jv 301 (.pick (.t 299) (.t 300) kf),jm 302 301,jg 303 302 true (.mov (.t 40)),jg 304 302 true (.mov (.t 42)),.mk (some 305) (some (302,true)) false (.call (jf 24) [.t 304]),jg 306 302 true (.bin .add (.t 305) (jn 1)),jg 307 302 true (.bin .leq (.t 303) (.t 306)),jv 308 (.pick (.t 302) (.t 307) kf),jm 2 308]) .ret)
def zv4:AC:=(.seq (rr [jv 281 (.load (.ag [.s,.p]) (.t 30)),jm 282 31,jx 283 (.call (jf 23) [.t 281,.t 282]),jm 280 283,jv 284 (.ext (.t 280) 0),jv 285 (.extS (.t 280) 1),jm 42 284,jm 43 285]) zuW)
def zvs:AC:=(.seq (rr [jv 275 (.load (.ag [.s,.p]) (.t 30)),jm 276 32,jx 277 (.call (jf 15) [.t 275,.t 276]),jm 274 277,jv 278 (.extS (.t 274) 0),jv 279 (.extS (.t 274) 1),jm 40 278,jm 41 279]) zv4)
def zut:AC:=(.seq (rr [jv 269 (.load (.ag [.s,.p]) (.t 30)),jm 270 32,jx 271 (.call (jf 13) [.t 269,.t 270]),jm 268 271,jv 272 (.extS (.t 268) 0),jv 273 (.extS (.t 268) 1),jm 38 272,jm 39 273]) zvs)
def zuI:AC:=(.seq (rr [jv 263 (.load (.ag [.s,.p]) (.t 30)),jm 264 32,jx 265 (.call (jf 11) [.t 263,.t 264]),jm 262 265,jv 266 (.extS (.t 262) 0),jv 267 (.extS (.t 262) 1),jm 36 266,jm 37 267]) zut)
def zqA:AC:=(.seq (.seq (rr [jm 260 33,jv 261 (.un .not (.t 260))]) zuy) zuI)
def zqx:AC:=(.seq (rr [jm 251 33,jm 252 35,jv 253 (.beq true (.t 251) (.t 252)),jm 254 253,jg 255 254 false (.mov (.t 32)),jg 256 254 false (.mov (.t 34)),.mk (some 257) (some (254,false)) false (.call (jf 22) [.t 255,.t 256]),jg 258 254 false (.un .not (.t 257)),jv 259 (.pick (.t 254) kt (.t 258))]) zpB)
def zrD:AC:=(.seq (.seq (rr [jv 246 (.load (.ag [.s,.p]) (.t 30)),jm 247 31,jx 248 (.call (jf 21) [.t 246,.t 247]),jm 245 248,jv 249 (.ext (.t 245) 0),jv 250 (.extS (.t 245) 1),jm 34 249,jm 35 250]) zqx) zqA)
def ztS:AC:=(.seq (rr [jv 240 (.load (.ag [.s,.p]) (.t 30)),jm 241 31,jx 242 (.call (jf 20) [.t 240,.t 241]),jm 239 242,jv 243 (.ext (.t 239) 0),jv 244 (.extS (.t 239) 1),jm 32 243,jm 33 244]) zrD)
def zdF:AC:=(.seq (.reg [.clr [30]] [jm 235 0,jx 236 (.call (jf 19) [.t 235]),jm 234 236,jv 237 (.ext (.t 234) 0),jv 238 (.ext (.t 234) 1),jx 30 (.alloc (.agg [i0,.sl .nl (.ag [.s,.s]) 0 []])),jz (.store (.ag [.s,.p]) (.t 30) (.t 237)),jm 31 238] []) ztS)
def ztj:AC:=(.cond (.t 181) .skip (.exit 0))
def zsK:AC:=(.cond (.t 185) (rr [jm 186 26,jm 187 186,jg 188 187 true (.mov (.t 5)),jg 189 187 true (.mov (.t 27)),jg 190 187 true (.idx (.t 188) (.t 189) 1),jg 191 187 true (.load .p (.t 190)),jg 192 187 true (.mov (.t 5)),jg 193 187 true (.mov (.t 27)),jg 194 187 true (.bin .sub (.t 193) (jn 1)),jg 195 187 true (.idx (.t 192) (.t 194) 1),jg 196 187 true (.load .p (.t 195)),.mk (some 197) (some (187,true)) false (.call (jf 17) [.t 191,.t 196]),jv 198 (.pick (.t 187) (.t 197) kf),jm 26 198]) .skip)
def zkU:AC:=(rr [jm 199 5,jm 200 27,jv 201 (.idx (.t 199) (.t 200) 1),jv 202 (.load .p (.t 201)),jk 203 202,jm 25 203])
def zlj:AC:=(rr [jm 182 27,jv 183 (.bin .add (.t 182) (jn 1)),jm 27 183])
def zqW:AC:=(.seq (.block 1 (.seq (.seq (rr [jm 184 27,jv 185 (.bin .gtr (.t 184) (jn 0))]) zsK) zkU)) zlj)
def N2:AC:=(.seq (.seq (rr [jm 178 27,jm 179 5,jk 180 179,jv 181 (.bin .lss (.t 178) (.t 180))]) ztj) zqW)
def zkY:AC:=(.cond (.t 212) (.seq (rr [jv 2 (.mov kf)]) .ret) .skip)
def zlX:AC:=(.cond (.t 233) (.seq (rr [jv 2 (.mov kf)]) .ret) .skip)
def zsX:AC:=(.seq (rr [jm 218 29,jv 219 (.un .not (.t 218)),jm 220 219,jg 221 220 false (.mov (.t 13)),jg 222 220 false (.mov (.t 221)),jg 223 222 true (.fld (.t 3) 0 0),jg 224 222 true (.load .s (.t 223)),jg 225 222 true (.bin .gtr (.t 224) (jn 0)),jg 226 220 false (.pick (.t 222) (.t 225) kf),jg 227 220 false (.mov (.t 226)),jg 228 227 true (.mov (.t 21)),jg 229 227 true (.mov (.t 28)),jg 230 227 true (.bin .add (.t 229) (jn 1)),jg 231 227 true (.bin .lss (.t 228) (.t 230)),jg 232 220 false (.pick (.t 227) (.t 231) kf),jv 233 (.pick (.t 220) kt (.t 232))]) zlX)
def zk9:AC:=(.seq (rr [jv 214 (.load (.ag [.s,.p]) (.t 3)),jx 215 (.call (jf 18) [.t 214]),jm 213 215,jv 216 (.extS (.t 213) 0),jv 217 (.extS (.t 213) 1),jm 28 216,jm 29 217]) zsX)
def zeX:AC:=(.seq (.seq (rr [jm 204 13,jm 205 25,jv 206 (.bin .eql (.t 205) (jn 0)),jv 207 (.beq true (.t 204) (.t 206)),jm 208 207,jg 209 208 false (.mov (.t 17)),jg 210 208 false (.mov (.t 26)),jg 211 208 false (.beq true (.t 209) (.t 210)),jv 212 (.pick (.t 208) kt (.t 211))]) zkY) zk9)
def zlM:AC:=(.cond (.t 174) (.seq (rr [jv 2 (.mov kf)]) .ret) .skip)
def zqY:AC:=(.block 0 (.loop N2))
def zq4:AC:=(.seq (.seq (rr [jv 27 (.mov (jn 0))]) zqY) zeX)
def zqC:AC:=(.cond (.t 175) (.seq (rr [jv 176 (.fld (.t 3) 0 0),jl 177 176,jm 25 177,jv 26 (.mov kt)]) zq4) .skip)
def zk3:AC:=(.seq (.seq (rr [jm 175 6]) zqC) zdF)
def zlD:AC:=(.cond (.t 149) (.seq (rr [jv 2 (.mov kf)]) .ret) .skip)
def ztm:AC:=(.seq (rr [jm 162 21,jm 163 23,jv 164 (.bin .neq (.t 162) (.t 163)),jm 165 164,jg 166 165 false (.mov (.t 22)),jg 167 165 false (.mov (.t 24)),jg 168 165 false (.beq true (.t 166) (.t 167)),jv 169 (.pick (.t 165) kt (.t 168)),jm 170 169,jg 171 170 false (.mov (.t 22)),jg 172 170 false (.mov (.t 6)),jg 173 170 false (.beq true (.t 171) (.t 172)),jv 174 (.pick (.t 170) kt (.t 173))]) zlM)
def zpN:AC:=(.seq (.seq (rr [jv 157 (.load (.ag [.s,.p]) (.t 3)),jm 158 4,jx 159 (.call (jf 16) [.t 157,.t 158]),jm 156 159,jv 160 (.extS (.t 156) 0),jv 161 (.extS (.t 156) 1),jm 23 160,jm 24 161]) ztm) zk3)
def zlm:AC:=(.seq (rr [jv 151 (.load (.ag [.s,.p]) (.t 3)),jm 152 4,jx 153 (.call (jf 15) [.t 151,.t 152]),jm 150 153,jv 154 (.extS (.t 150) 0),jv 155 (.extS (.t 150) 1),jm 21 154,jm 22 155]) zpN)
def zkZ:AC:=(.cond (.t 124) (.seq (rr [jv 2 (.mov kf)]) .ret) .skip)
def zqr:AC:=(.seq (rr [jm 137 17,jm 138 19,jv 139 (.beq true (.t 137) (.t 138)),jm 140 139,jg 141 140 false (.mov (.t 18)),jg 142 140 false (.mov (.t 20)),jg 143 140 false (.beq true (.t 141) (.t 142)),jv 144 (.pick (.t 140) kt (.t 143)),jm 145 144,jg 146 145 false (.mov (.t 18)),jg 147 145 false (.mov (.t 6)),jg 148 145 false (.beq true (.t 146) (.t 147)),jv 149 (.pick (.t 145) kt (.t 148))]) zlD)
def zqo:AC:=(.seq (.seq (rr [jv 132 (.load (.ag [.s,.p]) (.t 3)),jm 133 4,jx 134 (.call (jf 14) [.t 132,.t 133]),jm 131 134,jv 135 (.extS (.t 131) 0),jv 136 (.extS (.t 131) 1),jm 19 135,jm 20 136]) zqr) zlm)
def zlU:AC:=(.seq (rr [jv 126 (.load (.ag [.s,.p]) (.t 3)),jm 127 4,jx 128 (.call (jf 13) [.t 126,.t 127]),jm 125 128,jv 129 (.extS (.t 125) 0),jv 130 (.extS (.t 125) 1),jm 17 129,jm 18 130]) zqo)
def zk6:AC:=(.cond (.t 99) (.seq (rr [jv 2 (.mov kf)]) .ret) .skip)
def zph:AC:=(.seq (rr [jm 112 13,jm 113 15,jv 114 (.beq true (.t 112) (.t 113)),jm 115 114,jg 116 115 false (.mov (.t 14)),jg 117 115 false (.mov (.t 16)),jg 118 115 false (.beq true (.t 116) (.t 117)),jv 119 (.pick (.t 115) kt (.t 118)),jm 120 119,jg 121 120 false (.mov (.t 14)),jg 122 120 false (.mov (.t 6)),jg 123 120 false (.beq true (.t 121) (.t 122)),jv 124 (.pick (.t 120) kt (.t 123))]) zkZ)
def zr2:AC:=(.seq (.seq (rr [jv 107 (.load (.ag [.s,.p]) (.t 3)),jm 108 4,jx 109 (.call (jf 12) [.t 107,.t 108]),jm 106 109,jv 110 (.extS (.t 106) 0),jv 111 (.extS (.t 106) 1),jm 15 110,jm 16 111]) zph) zlU)
def zlB:AC:=(.seq (rr [jv 101 (.load (.ag [.s,.p]) (.t 3)),jm 102 4,jx 103 (.call (jf 11) [.t 101,.t 102]),jm 100 103,jv 104 (.extS (.t 100) 0),jv 105 (.extS (.t 100) 1),jm 13 104,jm 14 105]) zr2)
def zlW:AC:=(.cond (.t 71) (.seq (rr [jv 2 (.mov kf)]) .ret) .skip)
def zqk:AC:=(.seq (rr [jm 84 9,jm 85 11,jv 86 (.beq true (.t 84) (.t 85)),jm 87 86,jg 88 87 false (.mov (.t 10)),jg 89 87 false (.mov (.t 12)),jg 90 87 false (.beq true (.t 88) (.t 89)),jv 91 (.pick (.t 87) kt (.t 90)),jm 92 91,jg 93 92 false (.mov (.t 6)),jg 94 92 false (.mov (.t 10)),jg 95 92 false (.mov (.t 94)),jg 96 95 true (.mov (.t 9)),jg 97 92 false (.pick (.t 95) (.t 96) kf),jg 98 92 false (.beq true (.t 93) (.t 97)),jv 99 (.pick (.t 92) kt (.t 98))]) zk6)
def zrg:AC:=(.seq (.seq (rr [jv 79 (.load (.ag [.s,.p]) (.t 3)),jm 80 4,jx 81 (.call (jf 10) [.t 79,.t 80]),jm 78 81,jv 82 (.extS (.t 78) 0),jv 83 (.extS (.t 78) 1),jm 11 82,jm 12 83]) zqk) zlB)
def zlV:AC:=(.seq (rr [jv 73 (.load (.ag [.s,.p]) (.t 3)),jm 74 4,jx 75 (.call (jf 9) [.t 73,.t 74]),jm 72 75,jv 76 (.extS (.t 72) 0),jv 77 (.extS (.t 72) 1),jm 9 76,jm 10 77]) zrg)
def zqF:AC:=(.cond (.t 45) (.seq (rr [jv 2 (.mov kt)]) .ret) .skip)
def ztd:AC:=(.seq (rr [jm 63 6,jm 64 8,jv 65 (.beq true (.t 63) (.t 64)),jm 66 65,jg 67 66 false (.mov (.t 5)),jg 68 66 false (.mov (.t 7)),.mk (some 69) (some (66,false)) false (.call (jf 8) [.t 67,.t 68]),jg 70 66 false (.un .not (.t 69)),jv 71 (.pick (.t 66) kt (.t 70))]) zlW)
def zsj:AC:=(.seq (.seq (rr [jv 58 (.load (.ag [.s,.p]) (.t 3)),jm 59 4,jx 60 (.call (jf 7) [.t 58,.t 59]),jm 57 60,jv 61 (.ext (.t 57) 0),jv 62 (.extS (.t 57) 1),jm 7 61,jm 8 62]) ztd) zlV)
def zsv:AC:=(.seq (rr [jv 52 (.load (.ag [.s,.p]) (.t 3)),jm 53 4,jx 54 (.call (jf 6) [.t 52,.t 53]),jm 51 54,jv 55 (.ext (.t 51) 0),jv 56 (.extS (.t 51) 1),jm 5 55,jm 6 56]) zsj)
def zri:AC:=(.seq (.reg [.clr [3]] [jm 47 0,jx 48 (.call (jf 5) [.t 47]),jm 46 48,jv 49 (.ext (.t 46) 0),jv 50 (.ext (.t 46) 1),jx 3 (.alloc (.agg [i0,.sl .nl (.ag [.s,.s]) 0 []])),jz (.store (.ag [.s,.p]) (.t 3) (.t 49)),jm 4 50] []) zsv)
def zoO:AC:=(.seq (.seq (rr [jm 44 0,jx 45 (.call (jf 4) [.t 44])]) zqF) zri)
def A3:AC:=(.seq (rr [jv 2 (.mov kf)]) zoO)
def an3:List An:=[⟨3,[.clr [3]],[],[],[]⟩,⟨37,[.clr [30]],[],[],[]⟩]
theorem c3:cq Try.prog Try.f3 an3=some A3:=by kernel_rfl
structure H3 (D:Den) (σ:Sig) (F:Nat):Prop where
 c4:C4 (D 4) F
 g4:σ 4=some (0,false)
 c5:C5 (D 5) F
 g5:σ 5=some (0,true)
 c6:C6 (D 6) F
 g6:σ 6=some (0,true)
 c7:C7 (D 7) F
 g7:σ 7=some (0,true)
 c8:C8 (D 8) F
 g8:σ 8=some (0,false)
 c9:C9 (D 9) F
 g9:σ 9=some (0,false)
 c10:C10 (D 10) F
 g10:σ 10=some (0,false)
 c11:C11 (D 11) F
 g11:σ 11=some (0,false)
 c12:C12 (D 12) F
 g12:σ 12=some (0,false)
 c13:C13 (D 13) F
 g13:σ 13=some (0,false)
 c14:C14 (D 14) F
 g14:σ 14=some (0,false)
 c15:C15 (D 15) F
 g15:σ 15=some (0,false)
 c16:C16 (D 16) F
 g16:σ 16=some (0,false)
 c17:C17 (D 17) F
 g17:σ 17=some (0,false)
 c18:C18 (D 18) F
 g18:σ 18=some (0,false)
 c19:C19 (D 19) F
 g19:σ 19=some (0,true)
 c20:C20 (D 20) F
 g20:σ 20=some (0,false)
 c21:C21 (D 21) F
 g21:σ 21=some (0,false)
 c22:C22 (D 22) F
 g22:σ 22=some (0,false)
 c23:C23 (D 23) F
 g23:σ 23=some (0,false)
 c24:C24 (D 24) F
 g24:σ 24=some (0,false)
abbrev R3 (r:Bool):(Nat→V)→Prop:=RR Try.prog [.tmp 2] 0 false (Enc.enc (r:Bool))
section
variable {r:Bool}
def Zc (F:Nat) (r50:(GR×LI)) (r51:(LI×Bool))  (x54:Bool):Option Bool:=
 bif x54 then
  some false
 else
  bif (!r51.2) then
   some true
  else
   (wK F r50.1 r51.1).bind fun r55=>
   (uv F r50.1 r51.1).bind fun r56=>
   (xF F r50.1 r51.1).bind fun r57=>
   (vj F r50.1 r50.2).bind fun r58=>
   bif r55.2 then
    bif r56.2 then
     bif r57.2 then
      bif r58.2 then
       bif r55.1 then
        bif r56.1 then
         (WT F r58.1).bind fun r59=>
         some (decide (r57.1≤(w64 (r59 + 1))))
        else
         some false
       else
        some false
      else
       some false
     else
      some false
    else
     some false
   else
    some false
theorem zfG (H:H3 D σ F) (r50:(GR×LI)) (r51:(LI×Bool))  (x54:Bool) (s:Nat→V) (hs:zr [(2,jb false),(30,bG 30 r50.1),(31,eL r50.2),(32,eL r51.1),(33,jb r51.2),(259,jb x54)] s) (h:Zc F r50 r51  x54=some r):Run D σ (R3 r) (.nrm [.sq zpB,.sq zqA]) s:=by
 unfold Zc at h
 obtain ⟨h2,h30,h31,h32,h33,h259⟩:=hs
 refine .nsq (zn h259 h (fun h=>?_) (fun h=>?_))
 · refine .seq (rg (g0 (jb false) fun h2=>gq (.nsq (.ret ?_))))
   obtain rfl:=oi h
   exact rrA (zm h2) rfl
 refine .skip (.nsq (.seq (.seq (rg (gm h33 fun h260=>g1 260 (jb (!r51.2)) h260 fun h261=>gq (.nsq (zn h261 h (fun h=>?_) (fun h=>?_))))))))
 · refine .seq (rg (g0 (jb true) fun h2=>gq (.nsq (.ret ?_))))
   obtain rfl:=oi h
   exact rrA (zm h2) rfl
 refine .skip (.nsq (.seq (rg (g1 30 (gV r50.1) h30 fun h263=>gm h32 fun h264=>?_))))
 obtain ⟨r55,Er55,h⟩:=zc h
 refine gcF [Enc.enc (r50.1:GR),eL r51.1] (zf h263 rfl (Enc.erase_enc (r50.1:GR)) (zf h264 rfl (Enc.erase_enc (r51.1:LI)) zC)) (H.c11 _ _ _ Er55) H.g11 (gm (rf (.tup [jb r55.1,jb r55.2])) fun h262=>g1 262 (jb r55.1) h262 fun h266=>g1 262 (jb r55.2) h262 fun h267=>gm h266 fun h36=>gm h267 fun h37=>gq (.nsq (.seq (rg (g1 30 (gV r50.1) h30 fun h269=>gm h32 fun h270=>?_)))))
 obtain ⟨r56,Er56,h⟩:=zc h
 refine gcF [Enc.enc (r50.1:GR),eL r51.1] (zf h269 rfl (Enc.erase_enc (r50.1:GR)) (zf h270 rfl (Enc.erase_enc (r51.1:LI)) zC)) (H.c13 _ _ _ Er56) H.g13 (gm (rf (.tup [jb r56.1,jb r56.2])) fun h268=>g1 268 (jb r56.1) h268 fun h272=>g1 268 (jb r56.2) h268 fun h273=>gm h272 fun h38=>gm h273 fun h39=>gz [(2,_),(30,_),(31,_),(32,_),(36,_),(37,_),(38,_),(39,_)] ⟨h2,h30,h31,h32,h36,h37,h38,h39⟩ ?_)
 rintro s ⟨h2,h30,h31,h32,h36,h37,h38,h39⟩
 refine .nsq (.seq (rg (g1 30 (gV r50.1) h30 fun h275=>gm h32 fun h276=>?_)))
 obtain ⟨r57,Er57,h⟩:=zc h
 refine gcF [Enc.enc (r50.1:GR),eL r51.1] (zf h275 rfl (Enc.erase_enc (r50.1:GR)) (zf h276 rfl (Enc.erase_enc (r51.1:LI)) zC)) (H.c15 _ _ _ Er57) H.g15 (gm (rf (.tup [ji r57.1,jb r57.2])) fun h274=>g1 274 (ji r57.1) h274 fun h278=>g1 274 (jb r57.2) h274 fun h279=>gm h278 fun h40=>gm h279 fun h41=>gq (.nsq (.seq (rg (g1 30 (gV r50.1) h30 fun h281=>gm h31 fun h282=>?_)))))
 obtain ⟨r58,Er58,h⟩:=zc h
 refine gcF [Enc.enc (r50.1:GR),eL r50.2] (zf h281 rfl (Enc.erase_enc (r50.1:GR)) (zf h282 rfl (Enc.erase_enc (r50.2:LI)) zC)) (H.c23 _ _ _ Er58) H.g23 (gm (rf (.tup [eL r58.1,jb r58.2])) fun h280=>g1 280 (eL r58.1) h280 fun h284=>g1 280 (jb r58.2) h280 fun h285=>gm h284 fun h42=>gm h285 fun h43=>gq (.nsq (.seq (rg (gm h37 fun h286=>gm h286 fun h287=>zX h (fun hg2 h=>?_) (fun hg2 h=>?_))))))
 · refine zp (ct h287 hg2) (gm h39 fun h288=>g2 287 288 (jb r56.2) (ct h287 hg2) h288 fun h289=>gm h289 fun h290=>zX h (fun hg5 h=>?_) (fun hg5 h=>?_))
   · refine zp (ct h290 hg5) (gm h41 fun h291=>g2 290 291 (jb r57.2) (ct h290 hg5) h291 fun h292=>gm h292 fun h293=>zX h (fun hg8 h=>?_) (fun hg8 h=>?_))
     · refine zp (ct h293 hg8) (gm h43 fun h294=>g2 293 294 (jb r58.2) (ct h293 hg8) h294 fun h295=>gm h295 fun h296=>zX h (fun hg11 h=>?_) (fun hg11 h=>?_))
       · refine zp (ct h296 hg11) (gm h36 fun h297=>g2 296 297 (jb r55.1) (ct h296 hg11) h297 fun h298=>gm h298 fun h299=>zX h (fun hg14 h=>?_) (fun hg14 h=>?_))
         · refine zp (ct h299 hg14) (gm h38 fun h300=>g2 299 300 (jb r56.1) (ct h299 hg14) h300 fun h301=>gm h301 fun h302=>zX h (fun hg17 h=>?_) (fun hg17 h=>?_))
           · refine zp (ct h302 hg17) (gm h40 fun h303=>zp (ct h302 hg17) (gm h42 fun h304=>?_))
             obtain ⟨r59,Er59,h⟩:=zc h
             refine zp (ct h302 hg17) (gcF [eL r58.1] (zf h304 rfl (Enc.erase_enc (r58.1:LI)) zC) (H.c24 _ _ Er59) H.g24 (zp (ct h302 hg17) (g1 305 (ji (w64 (r59 + 1))) (rf (ji r59)) fun h306=>zp (ct h302 hg17) (g2 303 306 (jb (decide (r57.1≤(w64 (r59 + 1))))) h303 h306 fun h307=>g2 302 307 (jb (decide (r57.1≤(w64 (r59 + 1))))) (ct h302 hg17) h307 fun h308=>gm h308 fun h2=>gz [(2,_)] h2 ?_))))
             rintro s h2
             refine .nsq (.ret ?_)
             obtain rfl:=oi h
             exact rrA (zm h2) rfl
           iterate 5 refine yq (ct h302 hg17) ?_
           refine g2 302 307 (jb false) (ct h302 hg17) (rf (.tup [])) fun h308=>gm h308 fun h2=>gz [(2,_)] h2 ?_
           rintro s h2
           refine .nsq (.ret ?_)
           obtain rfl:=oi h
           exact rrA (zm h2) rfl
         refine yq (ct h299 hg14) (g2 299 300 (jb false) (ct h299 hg14) (rf (.tup [])) fun h301=>gm h301 fun h302=>yq h302 ?_)
         iterate 4 refine yq h302 ?_
         refine g2 302 307 (jb false) h302 (rf (.tup [])) fun h308=>gm h308 fun h2=>gz [(2,_)] h2 ?_
         rintro s h2
         refine .nsq (.ret ?_)
         obtain rfl:=oi h
         exact rrA (zm h2) rfl
       refine yq (ct h296 hg11) (g2 296 297 (jb false) (ct h296 hg11) (rf (.tup [])) fun h298=>gm h298 fun h299=>yq h299 (g2 299 300 (jb false) h299 (rf (.tup [])) fun h301=>gm h301 fun h302=>yq h302 ?_))
       iterate 4 refine yq h302 ?_
       refine g2 302 307 (jb false) h302 (rf (.tup [])) fun h308=>gm h308 fun h2=>gz [(2,_)] h2 ?_
       rintro s h2
       refine .nsq (.ret ?_)
       obtain rfl:=oi h
       exact rrA (zm h2) rfl
     refine yq (ct h293 hg8) (g2 293 294 (jb false) (ct h293 hg8) (rf (.tup [])) fun h295=>gm h295 fun h296=>yq h296 (g2 296 297 (jb false) h296 (rf (.tup [])) fun h298=>gm h298 fun h299=>yq h299 (g2 299 300 (jb false) h299 (rf (.tup [])) fun h301=>gm h301 fun h302=>yq h302 ?_)))
     iterate 4 refine yq h302 ?_
     refine g2 302 307 (jb false) h302 (rf (.tup [])) fun h308=>gm h308 fun h2=>gz [(2,_)] h2 ?_
     rintro s h2
     refine .nsq (.ret ?_)
     obtain rfl:=oi h
     exact rrA (zm h2) rfl
   refine yq (ct h290 hg5) (g2 290 291 (jb false) (ct h290 hg5) (rf (.tup [])) fun h292=>gm h292 fun h293=>yq h293 (g2 293 294 (jb false) h293 (rf (.tup [])) fun h295=>gm h295 fun h296=>yq h296 (g2 296 297 (jb false) h296 (rf (.tup [])) fun h298=>gm h298 fun h299=>yq h299 (g2 299 300 (jb false) h299 (rf (.tup [])) fun h301=>gm h301 fun h302=>yq h302 ?_))))
   iterate 4 refine yq h302 ?_
   refine g2 302 307 (jb false) h302 (rf (.tup [])) fun h308=>gm h308 fun h2=>gz [(2,_)] h2 ?_
   rintro s h2
   refine .nsq (.ret ?_)
   obtain rfl:=oi h
   exact rrA (zm h2) rfl
 refine yq (ct h287 hg2) (g2 287 288 (jb false) (ct h287 hg2) (rf (.tup [])) fun h289=>gm h289 fun h290=>yq h290 (g2 290 291 (jb false) h290 (rf (.tup [])) fun h292=>gm h292 fun h293=>yq h293 (g2 293 294 (jb false) h293 (rf (.tup [])) fun h295=>gm h295 fun h296=>yq h296 (g2 296 297 (jb false) h296 (rf (.tup [])) fun h298=>gm h298 fun h299=>yq h299 (g2 299 300 (jb false) h299 (rf (.tup [])) fun h301=>gm h301 fun h302=>yq h302 ?_)))))
 iterate 4 refine yq h302 ?_
 refine g2 302 307 (jb false) h302 (rf (.tup [])) fun h308=>gm h308 fun h2=>gz [(2,_)] h2 ?_
 rintro s h2
 refine .nsq (.ret ?_)
 obtain rfl:=oi h
 exact rrA (zm h2) rfl
def vO (F:Nat) (x1:LB)  :Option Bool:=
 (xM F x1).bind fun r50=>
 (xB F r50.1 r50.2).bind fun r51=>
 (yY F r50.1 r50.2).bind fun r52=>
 bif (r51.2 != r52.2) then
  Zc F r50 r51 true
 else
  (WL F r51.1 r52.1).bind fun r60=>
  Zc F r50 r51 (!r60)
theorem ze0 (H:H3 D σ F) (x1:LB)   (s:Nat→V) (hs:zr [(0,eB x1),(2,jb false)] s) (h:vO F x1  =some r):Run D σ (R3 r) (.nrm [.sq zdF]) s:=by
 unfold vO at h
 obtain ⟨h0,h2⟩:=hs
 refine .nsq (.seq (zw (zW ?_)))
 refine ez [(0,_),(2,_),(30,_)] ⟨za h0 rfl me,za h2 rfl mb,ze rfl⟩ ?_
 rintro s ⟨h0,h2,h30⟩
 refine gm h0 fun h235=>?_
 obtain ⟨r50,Er50,h⟩:=zc h
 refine xT (m:=0) (al:=true) (r:=.tup [Enc.enc (r50.1:GR),eL r50.2]) [Enc.enc (x1:LB)] (zf h235 rfl (Enc.erase_enc (x1:LB)) zC) (H.c19 _ _ Er50) H.g19 (we (yc (v:=eB x1) h235 rfl rfl wd)) rfl rfl rfl (gm (rf (.tup [gV r50.1,eL r50.2])) fun h234=>g1 234 (gV r50.1) h234 fun h237=>g1 234 (eL r50.2) h234 fun h238=>y9 h30 (z5 (gV r50.1) (zB rfl rfl) (zB h237 rfl) (xo (by first | rfl | simp [V.toks,V.tokss,Enc.toks_enc,zY])) (gm (zd h238 uE) fun h31=>gz [(2,jb false),(30,bG 30 r50.1),(31,_)] ⟨zd h2 rfl,zd rfl rfl,h31⟩ ?_)))
 rintro s ⟨h2,h30,h31⟩
 refine .nsq (.seq (rg (g1 30 (gV r50.1) h30 fun h240=>gm h31 fun h241=>?_)))
 obtain ⟨r51,Er51,h⟩:=zc h
 refine gcF [Enc.enc (r50.1:GR),eL r50.2] (zf h240 rfl (Enc.erase_enc (r50.1:GR)) (zf h241 rfl (Enc.erase_enc (r50.2:LI)) zC)) (H.c20 _ _ _ Er51) H.g20 (gm (rf (.tup [eL r51.1,jb r51.2])) fun h239=>g1 239 (eL r51.1) h239 fun h243=>g1 239 (jb r51.2) h239 fun h244=>gm h243 fun h32=>gm h244 fun h33=>gq (.nsq (.seq (.seq (rg (g1 30 (gV r50.1) h30 fun h246=>gm h31 fun h247=>?_))))))
 obtain ⟨r52,Er52,h⟩:=zc h
 refine gcF [Enc.enc (r50.1:GR),eL r50.2] (zf h246 rfl (Enc.erase_enc (r50.1:GR)) (zf h247 rfl (Enc.erase_enc (r50.2:LI)) zC)) (H.c21 _ _ _ Er52) H.g21 (gm (rf (.tup [eL r52.1,jb r52.2])) fun h245=>g1 245 (eL r52.1) h245 fun h249=>g1 245 (jb r52.2) h245 fun h250=>gm h249 fun h34=>gm h250 fun h35=>gq (.nsq (.seq (rg (gm h33 fun h251=>gm h35 fun h252=>g2 251 252 (jb (r51.2 != r52.2)) h251 h252 fun h253=>gm h253 fun h254=>zX h (fun hg4 h=>?_) (fun hg4 h=>?_))))))
 · iterate 4 refine yq (ct h254 hg4) ?_
   refine g2 254 258 (jb true) (ct h254 hg4) (rf (.tup [])) fun h259=>gq ?_
   exact zfG H r50 r51 true _ ⟨h2,h30,h31,h32,h33,h259⟩ h
 refine zp (ct h254 hg4) (gm h32 fun h255=>zp (ct h254 hg4) (gm h34 fun h256=>?_))
 obtain ⟨r60,Er60,h⟩:=zc h
 refine zp (ct h254 hg4) (gcF [eL r51.1,eL r52.1] (zf h255 rfl (Enc.erase_enc (r51.1:LI)) (zf h256 rfl (Enc.erase_enc (r52.1:LI)) zC)) (H.c22 _ _ _ Er60) H.g22 (zp (ct h254 hg4) (g1 257 (jb (!r60)) (rf (jb r60)) fun h258=>g2 254 258 (jb (!r60)) (ct h254 hg4) h258 fun h259=>gq ?_)))
 exact zfG H r50 r51 (!r60) _ ⟨h2,h30,h31,h32,h33,h259⟩ h
def w9 (F:Nat) (x1:LB) (r3:(GR×LI)) (r4:((List LI)×Bool)) (r11:(Bool×Bool)) (r14:(Bool×Bool)) (r17:(Int×Bool)) (x69:Int) (x71:Int) (c2:Int→Bool→Int→Option Bool) (x83:Bool):Option Bool:=
 (idx r4.1 x71).bind fun v84=>
 c2 (v84.length:Int) x83 (w64 (x71 + 1))
theorem za2 (H:H3 D σ F) (x1:LB) (r3:(GR×LI)) (r4:((List LI)×Bool)) (r11:(Bool×Bool)) (r14:(Bool×Bool)) (r17:(Int×Bool)) (x69:Int) (x71:Int) (c2:Int→Bool→Int→Option Bool) (Hc2:∀ (x69:Int) (x70:Bool) (x71:Int) (s:Nat→V),zr [(0,eB x1),(2,jb false),(3,bG 3 r3.1),(5,Enc.enc (r4.1:List LI)),(13,jb r11.1),(17,jb r14.1),(21,ji r17.1),(25,ji x69),(26,jb x70),(27,ji x71)] s→c2 x69 x70 x71=some r→Run D σ (R3 r) (.run N2 [.lp N2,.bk 0,.sq zeX,.sq zdF]) s) (x83:Bool) (s:Nat→V) (hs:zr [(0,eB x1),(2,jb false),(3,bG 3 r3.1),(5,Enc.enc (r4.1:List LI)),(13,jb r11.1),(17,jb r14.1),(21,ji r17.1),(25,ji x69),(26,jb x83),(27,ji x71)] s) (h:w9 F x1 r3 r4 r11 r14 r17 x69 x71 c2 x83=some r):Run D σ (R3 r) (.nrm [.sq zkU,.bk 1,.sq zlj,.lp N2,.bk 0,.sq zeX,.sq zdF]) s:=by
 unfold w9 at h
 obtain ⟨h0,h2,h3,h5,h13,h17,h21,h25,h26,h27⟩:=hs
 refine .nsq (rg (gm h5 fun h199=>gm h27 fun h200=>?_))
 obtain ⟨v84,Ev84,h⟩:=zc h
 refine gv (.ref .sh 0 [] (eL v84)) (yg (t:=.sh) (lo:=0) (xs:=r4.1) h199 h200 Ev84 rfl rfl) fun h201=>g1 201 (eL v84) h201 fun h202=>gl v84 h202 fun h203=>gm h203 fun h25=>gz [(0,_),(2,_),(3,_),(5,_),(13,_),(17,_),(21,_),(25,_),(26,_),(27,_)] ⟨h0,h2,h3,h5,h13,h17,h21,h25,h26,h27⟩ ?_
 rintro s ⟨h0,h2,h3,h5,h13,h17,h21,h25,h26,h27⟩
 refine .nbk (.nsq (rg (gm h27 fun h182=>g1 182 (ji (w64 (x71 + 1))) h182 fun h183=>gm h183 fun h27=>gq (.nlp ?_))))
 exact Hc2 (v84.length:Int) x83 (w64 (x71 + 1)) _ ⟨h0,h2,h3,h5,h13,h17,h21,h25,h26,h27⟩ h
def vc (F:Nat) (x1:LB)  (x90:Bool):Option Bool:=
 bif x90 then
  some false
 else
  vO F x1
theorem Mb (H:H3 D σ F) (x1:LB)  (x90:Bool) (s:Nat→V) (hs:zr [(0,eB x1),(2,jb false),(233,jb x90)] s) (h:vc F x1  x90=some r):Run D σ (R3 r) (.nrm [.sq zlX,.sq zdF]) s:=by
 unfold vc at h
 obtain ⟨h0,h2,h233⟩:=hs
 refine .nsq (zn h233 h (fun h=>?_) (fun h=>?_))
 · refine .seq (rg (g0 (jb false) fun h2=>gq (.nsq (.ret ?_))))
   obtain rfl:=oi h
   exact rrA (zm h2) rfl
 refine .skip ?_
 exact ze0 H x1 _ ⟨h0,h2⟩ h
def vY (F:Nat) (x1:LB) (r3:(GR×LI)) (r11:(Bool×Bool)) (r17:(Int×Bool))  (x88:Bool):Option Bool:=
 bif x88 then
  some false
 else
  (vn F r3.1).bind fun r89=>
  bif (!r89.2) then
   vc F x1 true
  else
   bif r11.1 then
    bif decide (r3.1.1 > 0) then
     vc F x1 (decide (r17.1 < (w64 (r89.1 + 1))))
    else
     vc F x1 false
   else
    vc F x1 false
theorem zeV (H:H3 D σ F) (x1:LB) (r3:(GR×LI)) (r11:(Bool×Bool)) (r17:(Int×Bool))  (x88:Bool) (s:Nat→V) (hs:zr [(0,eB x1),(2,jb false),(3,bG 3 r3.1),(13,jb r11.1),(21,ji r17.1),(212,jb x88)] s) (h:vY F x1 r3 r11 r17  x88=some r):Run D σ (R3 r) (.nrm [.sq zkY,.sq zk9,.sq zdF]) s:=by
 unfold vY at h
 obtain ⟨h0,h2,h3,h13,h21,h212⟩:=hs
 refine .nsq (zn h212 h (fun h=>?_) (fun h=>?_))
 · refine .seq (rg (g0 (jb false) fun h2=>gq (.nsq (.ret ?_))))
   obtain rfl:=oi h
   exact rrA (zm h2) rfl
 refine .skip (.nsq (.seq (rg (g1 3 (gV r3.1) h3 fun h214=>?_))))
 obtain ⟨r89,Er89,h⟩:=zc h
 refine gcF [Enc.enc (r3.1:GR)] (zf h214 rfl (Enc.erase_enc (r3.1:GR)) zC) (H.c18 _ _ Er89) H.g18 (gm (rf (.tup [ji r89.1,jb r89.2])) fun h213=>g1 213 (ji r89.1) h213 fun h216=>g1 213 (jb r89.2) h213 fun h217=>gm h216 fun h28=>gm h217 fun h29=>gz [(0,_),(2,_),(3,_),(13,_),(21,_),(28,_),(29,_)] ⟨h0,h2,h3,h13,h21,h28,h29⟩ ?_)
 rintro s ⟨h0,h2,h3,h13,h21,h28,h29⟩
 refine .nsq (.seq (rg (gm h29 fun h218=>g1 218 (jb (!r89.2)) h218 fun h219=>gm h219 fun h220=>zX h (fun hg3 h=>?_) (fun hg3 h=>?_))))
 · iterate 2 refine yq (ct h220 hg3) ?_
   iterate 3 refine XO rfl ?_
   iterate 2 refine yq (ct h220 hg3) ?_
   iterate 4 refine XO rfl ?_
   refine yq (ct h220 hg3) (g2 220 232 (jb true) (ct h220 hg3) (rf (.tup [])) fun h233=>gq ?_)
   exact Mb H x1 true _ ⟨h0,h2,h233⟩ h
 refine zp (ct h220 hg3) (gm h13 fun h221=>zp (ct h220 hg3) (gm h221 fun h222=>zX h (fun hg5 h=>?_) (fun hg5 h=>?_)))
 · refine zp (ct h222 hg5) (g1 3 (.ref (.bx 3) 0 [0] (ji r3.1.1)) h3 fun h223=>zp (ct h222 hg5) (g1 223 (ji r3.1.1) h223 fun h224=>zp (ct h222 hg5) (g1 224 (jb (decide (r3.1.1 > 0))) h224 fun h225=>zp (ct h220 hg3) (g2 222 225 (jb (decide (r3.1.1 > 0))) (ct h222 hg5) h225 fun h226=>zp (ct h220 hg3) (gm h226 fun h227=>zX h (fun hg10 h=>?_) (fun hg10 h=>?_))))))
   · refine zp (ct h227 hg10) (gm h21 fun h228=>zp (ct h227 hg10) (gm h28 fun h229=>zp (ct h227 hg10) (g1 229 (ji (w64 (r89.1 + 1))) h229 fun h230=>zp (ct h227 hg10) (g2 228 230 (jb (decide (r17.1 < (w64 (r89.1 + 1))))) h228 h230 fun h231=>zp (ct h220 hg3) (g2 227 231 (jb (decide (r17.1 < (w64 (r89.1 + 1))))) (ct h227 hg10) h231 fun h232=>g2 220 232 (jb (decide (r17.1 < (w64 (r89.1 + 1))))) (ct h220 hg3) h232 fun h233=>gq ?_)))))
     exact Mb H x1 (decide (r17.1 < (w64 (r89.1 + 1)))) _ ⟨h0,h2,h233⟩ h
   iterate 4 refine yq (ct h227 hg10) ?_
   refine zp (ct h220 hg3) (g2 227 231 (jb false) (ct h227 hg10) (rf (.tup [])) fun h232=>g2 220 232 (jb false) (ct h220 hg3) h232 fun h233=>gq ?_)
   exact Mb H x1 false _ ⟨h0,h2,h233⟩ h
 iterate 3 refine yq (ct h222 hg5) ?_
 refine zp (ct h220 hg3) (g2 222 225 (jb false) (ct h222 hg5) (rf (.tup [])) fun h226=>zp (ct h220 hg3) (gm h226 fun h227=>?_))
 iterate 4 refine yq h227 ?_
 refine zp (ct h220 hg3) (g2 227 231 (jb false) h227 (rf (.tup [])) fun h232=>g2 220 232 (jb false) (ct h220 hg3) h232 fun h233=>gq ?_)
 exact Mb H x1 false _ ⟨h0,h2,h233⟩ h
def xe (F:Nat) (x1:LB) (r3:(GR×LI)) (r4:((List LI)×Bool)) (r11:(Bool×Bool)) (r14:(Bool×Bool)) (r17:(Int×Bool)) :Nat→Int→Bool→Int→Option Bool
 | 0,_,_,_=>none
 | k + 1,x69,x70,x71=>
   bif decide (x71 < (r4.1.length:Int)) then
    bif decide (x71 > 0) then
     bif x70 then
      (idx r4.1 x71).bind fun v85=>
      (idx r4.1 (w64 (x71 - 1))).bind fun v86=>
      (UX F v85 v86).bind fun r87=>
      w9 F x1 r3 r4 r11 r14 r17 x69 x71 (xe F x1 r3 r4 r11 r14 r17 k) r87
     else
      w9 F x1 r3 r4 r11 r14 r17 x69 x71 (xe F x1 r3 r4 r11 r14 r17 k) false
    else
     w9 F x1 r3 r4 r11 r14 r17 x69 x71 (xe F x1 r3 r4 r11 r14 r17 k) x70
   else
    bif (r11.1 != (x69 == 0)) then
     vY F x1 r3 r11 r17 true
    else
     vY F x1 r3 r11 r17 (r14.1 != x70)
theorem zkz (H:H3 D σ F) (x1:LB) (r3:(GR×LI)) (r4:((List LI)×Bool)) (r11:(Bool×Bool)) (r14:(Bool×Bool)) (r17:(Int×Bool)) :∀ (k:Nat) (x69:Int) (x70:Bool) (x71:Int) (s:Nat→V),zr [(0,eB x1),(2,jb false),(3,bG 3 r3.1),(5,Enc.enc (r4.1:List LI)),(13,jb r11.1),(17,jb r14.1),(21,ji r17.1),(25,ji x69),(26,jb x70),(27,ji x71)] s→xe F x1 r3 r4 r11 r14 r17 k x69 x70 x71=some r→Run D σ (R3 r) (.run N2 [.lp N2,.bk 0,.sq zeX,.sq zdF]) s:=by
 intro k
 induction k with
 | zero=>intro x69 x70 x71 s _ h;exact nm h
 | succ k ih=>
   intro x69 x70 x71 s hs h
   rw [xe] at h
   obtain ⟨h0,h2,h3,h5,h13,h17,h21,h25,h26,h27⟩:=hs
   refine .seq (.seq (rg (gm h27 fun h178=>gm h5 fun h179=>gl r4.1 h179 fun h180=>g2 178 180 (jb (decide (x71 < (r4.1.length:Int)))) h178 h180 fun h181=>gq (.nsq (zn h181 h (fun h=>?_) (fun h=>?_))))))
   · refine .skip (.nsq (.seq (.block (.seq (.seq (rg (gm h27 fun h184=>g1 184 (jb (decide (x71 > 0))) h184 fun h185=>gq (.nsq (zn h185 h (fun h=>?_) (fun h=>?_))))))))))
     · refine rg (gm h26 fun h186=>gm h186 fun h187=>zX h (fun hg2 h=>?_) (fun hg2 h=>?_))
       · refine zp (ct h187 hg2) (gm h5 fun h188=>zp (ct h187 hg2) (gm h27 fun h189=>?_))
         obtain ⟨v85,Ev85,h⟩:=zc h
         refine zp (ct h187 hg2) (gv (.ref .sh 0 [] (eL v85)) (yg (t:=.sh) (lo:=0) (xs:=r4.1) h188 h189 Ev85 rfl rfl) fun h190=>zp (ct h187 hg2) (g1 190 (eL v85) h190 fun h191=>zp (ct h187 hg2) (gm h5 fun h192=>zp (ct h187 hg2) (gm h27 fun h193=>zp (ct h187 hg2) (g1 193 (ji (w64 (x71 - 1))) h193 fun h194=>?_)))))
         obtain ⟨v86,Ev86,h⟩:=zc h
         refine zp (ct h187 hg2) (gv (.ref .sh 0 [] (eL v86)) (yg (t:=.sh) (lo:=0) (xs:=r4.1) h192 h194 Ev86 rfl rfl) fun h195=>zp (ct h187 hg2) (g1 195 (eL v86) h195 fun h196=>?_))
         obtain ⟨r87,Er87,h⟩:=zc h
         refine zp (ct h187 hg2) (gcF [eL v85,eL v86] (zf h191 rfl (Enc.erase_enc (v85:LI)) (zf h196 rfl (Enc.erase_enc (v86:LI)) zC)) (H.c17 _ _ _ Er87) H.g17 (g2 187 197 (jb r87) (ct h187 hg2) (rf (jb r87)) fun h198=>gm h198 fun h26=>gz [(0,_),(2,_),(3,_),(5,_),(13,_),(17,_),(21,_),(25,_),(26,_),(27,_)] ⟨h0,h2,h3,h5,h13,h17,h21,h25,h26,h27⟩ ?_))
         rintro s ⟨h0,h2,h3,h5,h13,h17,h21,h25,h26,h27⟩
         exact za2 H x1 r3 r4 r11 r14 r17 x69 x71 (xe F x1 r3 r4 r11 r14 r17 k) ih r87 _ ⟨h0,h2,h3,h5,h13,h17,h21,h25,h26,h27⟩ h
       iterate 10 refine yq (ct h187 hg2) ?_
       refine g2 187 197 (jb false) (ct h187 hg2) (rf (.tup [])) fun h198=>gm h198 fun h26=>gz [(0,_),(2,_),(3,_),(5,_),(13,_),(17,_),(21,_),(25,_),(26,_),(27,_)] ⟨h0,h2,h3,h5,h13,h17,h21,h25,h26,h27⟩ ?_
       rintro s ⟨h0,h2,h3,h5,h13,h17,h21,h25,h26,h27⟩
       exact za2 H x1 r3 r4 r11 r14 r17 x69 x71 (xe F x1 r3 r4 r11 r14 r17 k) ih false _ ⟨h0,h2,h3,h5,h13,h17,h21,h25,h26,h27⟩ h
     refine .skip ?_
     exact za2 H x1 r3 r4 r11 r14 r17 x69 x71 (xe F x1 r3 r4 r11 r14 r17 k) ih x70 _ ⟨h0,h2,h3,h5,h13,h17,h21,h25,h26,h27⟩ h
   refine .exit (.esq (.elp (.ebk (.nsq (.seq (.seq (rg (gm h13 fun h204=>gm h25 fun h205=>g1 205 (jb (x69 == 0)) h205 fun h206=>g2 204 206 (jb (r11.1 != (x69 == 0))) h204 h206 fun h207=>gm h207 fun h208=>zX h (fun hg5 h=>?_) (fun hg5 h=>?_)))))))))
   · iterate 3 refine yq (ct h208 hg5) ?_
     refine g2 208 211 (jb true) (ct h208 hg5) (rf (.tup [])) fun h212=>gz [(0,_),(2,_),(3,_),(13,_),(21,_),(212,_)] ⟨h0,h2,h3,h13,h21,h212⟩ ?_
     rintro s ⟨h0,h2,h3,h13,h21,h212⟩
     exact zeV H x1 r3 r11 r17 true _ ⟨h0,h2,h3,h13,h21,h212⟩ h
   refine zp (ct h208 hg5) (gm h17 fun h209=>zp (ct h208 hg5) (gm h26 fun h210=>zp (ct h208 hg5) (g2 209 210 (jb (r14.1 != x70)) h209 h210 fun h211=>g2 208 211 (jb (r14.1 != x70)) (ct h208 hg5) h211 fun h212=>gz [(0,_),(2,_),(3,_),(13,_),(21,_),(212,_)] ⟨h0,h2,h3,h13,h21,h212⟩ ?_)))
   rintro s ⟨h0,h2,h3,h13,h21,h212⟩
   exact zeV H x1 r3 r11 r17 (r14.1 != x70) _ ⟨h0,h2,h3,h13,h21,h212⟩ h
def vL (F:Nat) (x1:LB) (r3:(GR×LI)) (r4:((List LI)×Bool)) (r11:(Bool×Bool)) (r14:(Bool×Bool)) (r17:(Int×Bool))  (x19:Bool):Option Bool:=
 bif x19 then
  some false
 else
  bif r4.2 then
   xe F x1 r3 r4 r11 r14 r17 F r3.1.1 true 0
  else
   vO F x1
theorem zaM (H:H3 D σ F) (x1:LB) (r3:(GR×LI)) (r4:((List LI)×Bool)) (r11:(Bool×Bool)) (r14:(Bool×Bool)) (r17:(Int×Bool))  (x19:Bool) (s:Nat→V) (hs:zr [(0,eB x1),(2,jb false),(3,bG 3 r3.1),(5,Enc.enc (r4.1:List LI)),(6,jb r4.2),(13,jb r11.1),(17,jb r14.1),(21,ji r17.1),(174,jb x19)] s) (h:vL F x1 r3 r4 r11 r14 r17  x19=some r):Run D σ (R3 r) (.nrm [.sq zlM,.sq zk3]) s:=by
 unfold vL at h
 obtain ⟨h0,h2,h3,h5,h6,h13,h17,h21,h174⟩:=hs
 refine .nsq (zn h174 h (fun h=>?_) (fun h=>?_))
 · refine .seq (rg (g0 (jb false) fun h2=>gq (.nsq (.ret ?_))))
   obtain rfl:=oi h
   exact rrA (zm h2) rfl
 refine .skip (.nsq (.seq (.seq (rg (gm h6 fun h175=>gq (.nsq (zn h175 h (fun h=>?_) (fun h=>?_))))))))
 · refine .seq (rg (g1 3 (.ref (.bx 3) 0 [0] (ji r3.1.1)) h3 fun h176=>g1 176 (ji r3.1.1) h176 fun h177=>gm h177 fun h25=>g0 (jb true) fun h26=>gq (.nsq (.seq (.seq (rg (g0 (ji 0) fun h27=>gq (.nsq (.block (.loop ?_))))))))))
   exact zkz H x1 r3 r4 r11 r14 r17 F r3.1.1 true 0 _ ⟨h0,h2,h3,h5,h13,h17,h21,h25,h26,h27⟩ h
 refine .skip ?_
 exact ze0 H x1 _ ⟨h0,h2⟩ h
def vV (F:Nat) (x1:LB) (r3:(GR×LI)) (r4:((List LI)×Bool)) (r11:(Bool×Bool)) (r14:(Bool×Bool))  (x16:Bool):Option Bool:=
 bif x16 then
  some false
 else
  (xF F r3.1 r3.2).bind fun r17=>
  (wt F r3.1 r3.2).bind fun r18=>
  bif (r17.1 != r18.1) then
   vL F x1 r3 r4 r11 r14 r17 true
  else
   bif (r17.2 != r18.2) then
    vL F x1 r3 r4 r11 r14 r17 true
   else
    vL F x1 r3 r4 r11 r14 r17 (r17.2 != r4.2)
theorem zaF (H:H3 D σ F) (x1:LB) (r3:(GR×LI)) (r4:((List LI)×Bool)) (r11:(Bool×Bool)) (r14:(Bool×Bool))  (x16:Bool) (s:Nat→V) (hs:zr [(0,eB x1),(2,jb false),(3,bG 3 r3.1),(4,eL r3.2),(5,Enc.enc (r4.1:List LI)),(6,jb r4.2),(13,jb r11.1),(17,jb r14.1),(149,jb x16)] s) (h:vV F x1 r3 r4 r11 r14  x16=some r):Run D σ (R3 r) (.nrm [.sq zlD,.sq zlm]) s:=by
 unfold vV at h
 obtain ⟨h0,h2,h3,h4,h5,h6,h13,h17,h149⟩:=hs
 refine .nsq (zn h149 h (fun h=>?_) (fun h=>?_))
 · refine .seq (rg (g0 (jb false) fun h2=>gq (.nsq (.ret ?_))))
   obtain rfl:=oi h
   exact rrA (zm h2) rfl
 refine .skip (.nsq (.seq (rg (g1 3 (gV r3.1) h3 fun h151=>gm h4 fun h152=>?_))))
 obtain ⟨r17,Er17,h⟩:=zc h
 refine gcF [Enc.enc (r3.1:GR),eL r3.2] (zf h151 rfl (Enc.erase_enc (r3.1:GR)) (zf h152 rfl (Enc.erase_enc (r3.2:LI)) zC)) (H.c15 _ _ _ Er17) H.g15 (gm (rf (.tup [ji r17.1,jb r17.2])) fun h150=>g1 150 (ji r17.1) h150 fun h154=>g1 150 (jb r17.2) h150 fun h155=>gm h154 fun h21=>gm h155 fun h22=>gq (.nsq (.seq (.seq (rg (g1 3 (gV r3.1) h3 fun h157=>gm h4 fun h158=>?_))))))
 obtain ⟨r18,Er18,h⟩:=zc h
 refine gcF [Enc.enc (r3.1:GR),eL r3.2] (zf h157 rfl (Enc.erase_enc (r3.1:GR)) (zf h158 rfl (Enc.erase_enc (r3.2:LI)) zC)) (H.c16 _ _ _ Er18) H.g16 (gm (rf (.tup [ji r18.1,jb r18.2])) fun h156=>g1 156 (ji r18.1) h156 fun h160=>g1 156 (jb r18.2) h156 fun h161=>gm h160 fun h23=>gm h161 fun h24=>gq (.nsq (.seq (rg (gm h21 fun h162=>gm h23 fun h163=>g2 162 163 (jb (r17.1 != r18.1)) h162 h163 fun h164=>gm h164 fun h165=>zX h (fun hg4 h=>?_) (fun hg4 h=>?_))))))
 · iterate 3 refine yq (ct h165 hg4) ?_
   refine g2 165 168 (jb true) (ct h165 hg4) (rf (.tup [])) fun h169=>gm h169 fun h170=>yq h170 ?_
   iterate 2 refine yq h170 ?_
   refine g2 170 173 (jb true) h170 (rf (.tup [])) fun h174=>gq ?_
   exact zaM H x1 r3 r4 r11 r14 r17 true _ ⟨h0,h2,h3,h5,h6,h13,h17,h21,h174⟩ h
 refine zp (ct h165 hg4) (gm h22 fun h166=>zp (ct h165 hg4) (gm h24 fun h167=>zp (ct h165 hg4) (g2 166 167 (jb (r17.2 != r18.2)) h166 h167 fun h168=>g2 165 168 (jb (r17.2 != r18.2)) (ct h165 hg4) h168 fun h169=>gm h169 fun h170=>zX h (fun hg9 h=>?_) (fun hg9 h=>?_))))
 · iterate 3 refine yq (ct h170 hg9) ?_
   refine g2 170 173 (jb true) (ct h170 hg9) (rf (.tup [])) fun h174=>gq ?_
   exact zaM H x1 r3 r4 r11 r14 r17 true _ ⟨h0,h2,h3,h5,h6,h13,h17,h21,h174⟩ h
 refine zp (ct h170 hg9) (gm h22 fun h171=>zp (ct h170 hg9) (gm h6 fun h172=>zp (ct h170 hg9) (g2 171 172 (jb (r17.2 != r4.2)) h171 h172 fun h173=>g2 170 173 (jb (r17.2 != r4.2)) (ct h170 hg9) h173 fun h174=>gq ?_)))
 exact zaM H x1 r3 r4 r11 r14 r17 (r17.2 != r4.2) _ ⟨h0,h2,h3,h5,h6,h13,h17,h21,h174⟩ h
def vT (F:Nat) (x1:LB) (r3:(GR×LI)) (r4:((List LI)×Bool)) (r11:(Bool×Bool))  (x13:Bool):Option Bool:=
 bif x13 then
  some false
 else
  (uv F r3.1 r3.2).bind fun r14=>
  (ZA F r3.1 r3.2).bind fun r15=>
  bif (r14.1 != r15.1) then
   vV F x1 r3 r4 r11 r14 true
  else
   bif (r14.2 != r15.2) then
    vV F x1 r3 r4 r11 r14 true
   else
    vV F x1 r3 r4 r11 r14 (r14.2 != r4.2)
theorem zbs (H:H3 D σ F) (x1:LB) (r3:(GR×LI)) (r4:((List LI)×Bool)) (r11:(Bool×Bool))  (x13:Bool) (s:Nat→V) (hs:zr [(0,eB x1),(2,jb false),(3,bG 3 r3.1),(4,eL r3.2),(5,Enc.enc (r4.1:List LI)),(6,jb r4.2),(13,jb r11.1),(124,jb x13)] s) (h:vT F x1 r3 r4 r11  x13=some r):Run D σ (R3 r) (.nrm [.sq zkZ,.sq zlU]) s:=by
 unfold vT at h
 obtain ⟨h0,h2,h3,h4,h5,h6,h13,h124⟩:=hs
 refine .nsq (zn h124 h (fun h=>?_) (fun h=>?_))
 · refine .seq (rg (g0 (jb false) fun h2=>gq (.nsq (.ret ?_))))
   obtain rfl:=oi h
   exact rrA (zm h2) rfl
 refine .skip (.nsq (.seq (rg (g1 3 (gV r3.1) h3 fun h126=>gm h4 fun h127=>?_))))
 obtain ⟨r14,Er14,h⟩:=zc h
 refine gcF [Enc.enc (r3.1:GR),eL r3.2] (zf h126 rfl (Enc.erase_enc (r3.1:GR)) (zf h127 rfl (Enc.erase_enc (r3.2:LI)) zC)) (H.c13 _ _ _ Er14) H.g13 (gm (rf (.tup [jb r14.1,jb r14.2])) fun h125=>g1 125 (jb r14.1) h125 fun h129=>g1 125 (jb r14.2) h125 fun h130=>gm h129 fun h17=>gm h130 fun h18=>gq (.nsq (.seq (.seq (rg (g1 3 (gV r3.1) h3 fun h132=>gm h4 fun h133=>?_))))))
 obtain ⟨r15,Er15,h⟩:=zc h
 refine gcF [Enc.enc (r3.1:GR),eL r3.2] (zf h132 rfl (Enc.erase_enc (r3.1:GR)) (zf h133 rfl (Enc.erase_enc (r3.2:LI)) zC)) (H.c14 _ _ _ Er15) H.g14 (gm (rf (.tup [jb r15.1,jb r15.2])) fun h131=>g1 131 (jb r15.1) h131 fun h135=>g1 131 (jb r15.2) h131 fun h136=>gm h135 fun h19=>gm h136 fun h20=>gz [(0,_),(2,_),(3,_),(4,_),(5,_),(6,_),(13,_),(17,_),(18,_),(19,_),(20,_)] ⟨h0,h2,h3,h4,h5,h6,h13,h17,h18,h19,h20⟩ ?_)
 rintro s ⟨h0,h2,h3,h4,h5,h6,h13,h17,h18,h19,h20⟩
 refine .nsq (.seq (rg (gm h17 fun h137=>gm h19 fun h138=>g2 137 138 (jb (r14.1 != r15.1)) h137 h138 fun h139=>gm h139 fun h140=>zX h (fun hg4 h=>?_) (fun hg4 h=>?_))))
 · iterate 3 refine yq (ct h140 hg4) ?_
   refine g2 140 143 (jb true) (ct h140 hg4) (rf (.tup [])) fun h144=>gm h144 fun h145=>yq h145 ?_
   iterate 2 refine yq h145 ?_
   refine g2 145 148 (jb true) h145 (rf (.tup [])) fun h149=>gq ?_
   exact zaF H x1 r3 r4 r11 r14 true _ ⟨h0,h2,h3,h4,h5,h6,h13,h17,h149⟩ h
 refine zp (ct h140 hg4) (gm h18 fun h141=>zp (ct h140 hg4) (gm h20 fun h142=>zp (ct h140 hg4) (g2 141 142 (jb (r14.2 != r15.2)) h141 h142 fun h143=>g2 140 143 (jb (r14.2 != r15.2)) (ct h140 hg4) h143 fun h144=>gm h144 fun h145=>zX h (fun hg9 h=>?_) (fun hg9 h=>?_))))
 · iterate 3 refine yq (ct h145 hg9) ?_
   refine g2 145 148 (jb true) (ct h145 hg9) (rf (.tup [])) fun h149=>gq ?_
   exact zaF H x1 r3 r4 r11 r14 true _ ⟨h0,h2,h3,h4,h5,h6,h13,h17,h149⟩ h
 refine zp (ct h145 hg9) (gm h18 fun h146=>zp (ct h145 hg9) (gm h6 fun h147=>zp (ct h145 hg9) (g2 146 147 (jb (r14.2 != r4.2)) h146 h147 fun h148=>g2 145 148 (jb (r14.2 != r4.2)) (ct h145 hg9) h148 fun h149=>gq ?_)))
 exact zaF H x1 r3 r4 r11 r14 (r14.2 != r4.2) _ ⟨h0,h2,h3,h4,h5,h6,h13,h17,h149⟩ h
def wu (F:Nat) (x1:LB) (r3:(GR×LI)) (r4:((List LI)×Bool))  (x10:Bool):Option Bool:=
 bif x10 then
  some false
 else
  (wK F r3.1 r3.2).bind fun r11=>
  (uc F r3.1 r3.2).bind fun r12=>
  bif (r11.1 != r12.1) then
   vT F x1 r3 r4 r11 true
  else
   bif (r11.2 != r12.2) then
    vT F x1 r3 r4 r11 true
   else
    vT F x1 r3 r4 r11 (r11.2 != r4.2)
theorem Mc (H:H3 D σ F) (x1:LB) (r3:(GR×LI)) (r4:((List LI)×Bool))  (x10:Bool) (s:Nat→V) (hs:zr [(0,eB x1),(2,jb false),(3,bG 3 r3.1),(4,eL r3.2),(5,Enc.enc (r4.1:List LI)),(6,jb r4.2),(99,jb x10)] s) (h:wu F x1 r3 r4  x10=some r):Run D σ (R3 r) (.nrm [.sq zk6,.sq zlB]) s:=by
 unfold wu at h
 obtain ⟨h0,h2,h3,h4,h5,h6,h99⟩:=hs
 refine .nsq (zn h99 h (fun h=>?_) (fun h=>?_))
 · refine .seq (rg (g0 (jb false) fun h2=>gq (.nsq (.ret ?_))))
   obtain rfl:=oi h
   exact rrA (zm h2) rfl
 refine .skip (.nsq (.seq (rg (g1 3 (gV r3.1) h3 fun h101=>gm h4 fun h102=>?_))))
 obtain ⟨r11,Er11,h⟩:=zc h
 refine gcF [Enc.enc (r3.1:GR),eL r3.2] (zf h101 rfl (Enc.erase_enc (r3.1:GR)) (zf h102 rfl (Enc.erase_enc (r3.2:LI)) zC)) (H.c11 _ _ _ Er11) H.g11 (gm (rf (.tup [jb r11.1,jb r11.2])) fun h100=>g1 100 (jb r11.1) h100 fun h104=>g1 100 (jb r11.2) h100 fun h105=>gm h104 fun h13=>gm h105 fun h14=>gq (.nsq (.seq (.seq (rg (g1 3 (gV r3.1) h3 fun h107=>gm h4 fun h108=>?_))))))
 obtain ⟨r12,Er12,h⟩:=zc h
 refine gcF [Enc.enc (r3.1:GR),eL r3.2] (zf h107 rfl (Enc.erase_enc (r3.1:GR)) (zf h108 rfl (Enc.erase_enc (r3.2:LI)) zC)) (H.c12 _ _ _ Er12) H.g12 (gm (rf (.tup [jb r12.1,jb r12.2])) fun h106=>g1 106 (jb r12.1) h106 fun h110=>g1 106 (jb r12.2) h106 fun h111=>gm h110 fun h15=>gm h111 fun h16=>gq (.nsq (.seq (rg (gm h13 fun h112=>gm h15 fun h113=>g2 112 113 (jb (r11.1 != r12.1)) h112 h113 fun h114=>gm h114 fun h115=>zX h (fun hg4 h=>?_) (fun hg4 h=>?_))))))
 · iterate 3 refine yq (ct h115 hg4) ?_
   refine g2 115 118 (jb true) (ct h115 hg4) (rf (.tup [])) fun h119=>gm h119 fun h120=>yq h120 ?_
   iterate 2 refine yq h120 ?_
   refine g2 120 123 (jb true) h120 (rf (.tup [])) fun h124=>gq ?_
   exact zbs H x1 r3 r4 r11 true _ ⟨h0,h2,h3,h4,h5,h6,h13,h124⟩ h
 refine zp (ct h115 hg4) (gm h14 fun h116=>zp (ct h115 hg4) (gm h16 fun h117=>zp (ct h115 hg4) (g2 116 117 (jb (r11.2 != r12.2)) h116 h117 fun h118=>g2 115 118 (jb (r11.2 != r12.2)) (ct h115 hg4) h118 fun h119=>gm h119 fun h120=>zX h (fun hg9 h=>?_) (fun hg9 h=>?_))))
 · iterate 3 refine yq (ct h120 hg9) ?_
   refine g2 120 123 (jb true) (ct h120 hg9) (rf (.tup [])) fun h124=>gq ?_
   exact zbs H x1 r3 r4 r11 true _ ⟨h0,h2,h3,h4,h5,h6,h13,h124⟩ h
 refine zp (ct h120 hg9) (gm h14 fun h121=>zp (ct h120 hg9) (gm h6 fun h122=>zp (ct h120 hg9) (g2 121 122 (jb (r11.2 != r4.2)) h121 h122 fun h123=>g2 120 123 (jb (r11.2 != r4.2)) (ct h120 hg9) h123 fun h124=>gq ?_)))
 exact zbs H x1 r3 r4 r11 (r11.2 != r4.2) _ ⟨h0,h2,h3,h4,h5,h6,h13,h124⟩ h
def uF (F:Nat) (x1:LB) (r3:(GR×LI)) (r4:((List LI)×Bool))  (x7:Bool):Option Bool:=
 bif x7 then
  some false
 else
  (uT F r3.1 r3.2).bind fun r8=>
  (uP F r3.1 r3.2).bind fun r9=>
  bif (r8.1 != r9.1) then
   wu F x1 r3 r4 true
  else
   bif (r8.2 != r9.2) then
    wu F x1 r3 r4 true
   else
    bif r8.2 then
     wu F x1 r3 r4 (r4.2 != r8.1)
    else
     wu F x1 r3 r4 (r4.2 != false)
theorem zcJ (H:H3 D σ F) (x1:LB) (r3:(GR×LI)) (r4:((List LI)×Bool))  (x7:Bool) (s:Nat→V) (hs:zr [(0,eB x1),(2,jb false),(3,bG 3 r3.1),(4,eL r3.2),(5,Enc.enc (r4.1:List LI)),(6,jb r4.2),(71,jb x7)] s) (h:uF F x1 r3 r4  x7=some r):Run D σ (R3 r) (.nrm [.sq zlW,.sq zlV]) s:=by
 unfold uF at h
 obtain ⟨h0,h2,h3,h4,h5,h6,h71⟩:=hs
 refine .nsq (zn h71 h (fun h=>?_) (fun h=>?_))
 · refine .seq (rg (g0 (jb false) fun h2=>gq (.nsq (.ret ?_))))
   obtain rfl:=oi h
   exact rrA (zm h2) rfl
 refine .skip (.nsq (.seq (rg (g1 3 (gV r3.1) h3 fun h73=>gm h4 fun h74=>?_))))
 obtain ⟨r8,Er8,h⟩:=zc h
 refine gcF [Enc.enc (r3.1:GR),eL r3.2] (zf h73 rfl (Enc.erase_enc (r3.1:GR)) (zf h74 rfl (Enc.erase_enc (r3.2:LI)) zC)) (H.c9 _ _ _ Er8) H.g9 (gm (rf (.tup [jb r8.1,jb r8.2])) fun h72=>g1 72 (jb r8.1) h72 fun h76=>g1 72 (jb r8.2) h72 fun h77=>gm h76 fun h9=>gm h77 fun h10=>gq (.nsq (.seq (.seq (rg (g1 3 (gV r3.1) h3 fun h79=>gm h4 fun h80=>?_))))))
 obtain ⟨r9,Er9,h⟩:=zc h
 refine gcF [Enc.enc (r3.1:GR),eL r3.2] (zf h79 rfl (Enc.erase_enc (r3.1:GR)) (zf h80 rfl (Enc.erase_enc (r3.2:LI)) zC)) (H.c10 _ _ _ Er9) H.g10 (gm (rf (.tup [jb r9.1,jb r9.2])) fun h78=>g1 78 (jb r9.1) h78 fun h82=>g1 78 (jb r9.2) h78 fun h83=>gm h82 fun h11=>gm h83 fun h12=>gz [(0,_),(2,_),(3,_),(4,_),(5,_),(6,_),(9,_),(10,_),(11,_),(12,_)] ⟨h0,h2,h3,h4,h5,h6,h9,h10,h11,h12⟩ ?_)
 rintro s ⟨h0,h2,h3,h4,h5,h6,h9,h10,h11,h12⟩
 refine .nsq (.seq (rg (gm h9 fun h84=>gm h11 fun h85=>g2 84 85 (jb (r8.1 != r9.1)) h84 h85 fun h86=>gm h86 fun h87=>zX h (fun hg4 h=>?_) (fun hg4 h=>?_))))
 · iterate 3 refine yq (ct h87 hg4) ?_
   refine g2 87 90 (jb true) (ct h87 hg4) (rf (.tup [])) fun h91=>gm h91 fun h92=>yq h92 ?_
   iterate 2 refine yq h92 ?_
   refine XO rfl ?_
   iterate 2 refine yq h92 ?_
   refine g2 92 98 (jb true) h92 (rf (.tup [])) fun h99=>gq ?_
   exact Mc H x1 r3 r4 true _ ⟨h0,h2,h3,h4,h5,h6,h99⟩ h
 refine zp (ct h87 hg4) (gm h10 fun h88=>zp (ct h87 hg4) (gm h12 fun h89=>zp (ct h87 hg4) (g2 88 89 (jb (r8.2 != r9.2)) h88 h89 fun h90=>g2 87 90 (jb (r8.2 != r9.2)) (ct h87 hg4) h90 fun h91=>gm h91 fun h92=>zX h (fun hg9 h=>?_) (fun hg9 h=>?_))))
 · iterate 3 refine yq (ct h92 hg9) ?_
   refine XO rfl ?_
   iterate 2 refine yq (ct h92 hg9) ?_
   refine g2 92 98 (jb true) (ct h92 hg9) (rf (.tup [])) fun h99=>gq ?_
   exact Mc H x1 r3 r4 true _ ⟨h0,h2,h3,h4,h5,h6,h99⟩ h
 refine zp (ct h92 hg9) (gm h6 fun h93=>zp (ct h92 hg9) (gm h10 fun h94=>zp (ct h92 hg9) (gm h94 fun h95=>zX h (fun hg12 h=>?_) (fun hg12 h=>?_))))
 · refine zp (ct h95 hg12) (gm h9 fun h96=>zp (ct h92 hg9) (g2 95 96 (jb r8.1) (ct h95 hg12) h96 fun h97=>zp (ct h92 hg9) (g2 93 97 (jb (r4.2 != r8.1)) h93 h97 fun h98=>g2 92 98 (jb (r4.2 != r8.1)) (ct h92 hg9) h98 fun h99=>gq ?_)))
   exact Mc H x1 r3 r4 (r4.2 != r8.1) _ ⟨h0,h2,h3,h4,h5,h6,h99⟩ h
 refine yq (ct h95 hg12) (zp (ct h92 hg9) (g2 95 96 (jb false) (ct h95 hg12) (rf (.tup [])) fun h97=>zp (ct h92 hg9) (g2 93 97 (jb (r4.2 != false)) h93 h97 fun h98=>g2 92 98 (jb (r4.2 != false)) (ct h92 hg9) h98 fun h99=>gq ?_)))
 exact Mc H x1 r3 r4 (r4.2 != false) _ ⟨h0,h2,h3,h4,h5,h6,h99⟩ h
def ue (F:Nat) (x1:LB):Option Bool:=
 (Lu F x1).bind fun r2=>
 bif r2 then
  some true
 else
  (wG F x1).bind fun r3=>
  (uh F r3.1 r3.2).bind fun r4=>
  (uk F r3.1 r3.2).bind fun r5=>
  bif (r4.2 != r5.2) then
   uF F x1 r3 r4 true
  else
   (Xv F r4.1 r5.1).bind fun r91=>
   uF F x1 r3 r4 (!r91)
theorem t3 (H:H3 D σ F) (x1:LB) (s:Nat→V) (hs:zr [(0,eB x1)] s) (h:ue F x1=some r):Run D σ (R3 r) (.run A3 []) s:=by
 unfold ue at h
 have h0:=hs
 refine .seq (rg (g0 (jb false) fun h2=>gq (.nsq (.seq (.seq (rg (gm h0 fun h44=>?_)))))))
 obtain ⟨r2,Er2,h⟩:=zc h
 refine gcF [Enc.enc (x1:LB)] (zf h44 rfl (Enc.erase_enc (x1:LB)) zC) (H.c4 _ _ Er2) H.g4 (gq (.nsq (zn rfl h (fun h=>?_) (fun h=>?_))))
 · refine .seq (rg (g0 (jb true) fun h2=>gq (.nsq (.ret ?_))))
   obtain rfl:=oi h
   exact rrA (zm h2) rfl
 refine .skip (.nsq (.seq (zw (zW ?_))))
 refine ez [(0,_),(2,_),(3,_)] ⟨za h0 rfl me,za h2 rfl mb,ze rfl⟩ ?_
 rintro s ⟨h0,h2,h3⟩
 refine gm h0 fun h47=>?_
 obtain ⟨r3,Er3,h⟩:=zc h
 refine xT (m:=0) (al:=true) (r:=.tup [Enc.enc (r3.1:GR),eL r3.2]) [Enc.enc (x1:LB)] (zf h47 rfl (Enc.erase_enc (x1:LB)) zC) (H.c5 _ _ Er3) H.g5 (we (yc (v:=eB x1) h47 rfl rfl wd)) rfl rfl rfl (gm (rf (.tup [gV r3.1,eL r3.2])) fun h46=>g1 46 (gV r3.1) h46 fun h49=>g1 46 (eL r3.2) h46 fun h50=>y9 h3 (z5 (gV r3.1) (zB rfl rfl) (zB h49 rfl) (xo (by first | rfl | simp [V.toks,V.tokss,Enc.toks_enc,zY])) (gm (zd h50 uE) fun h4=>gz [(0,eB x1),(2,jb false),(3,bG 3 r3.1),(4,_)] ⟨zd h0 uE,zd h2 rfl,zd rfl rfl,h4⟩ ?_)))
 rintro s ⟨h0,h2,h3,h4⟩
 refine .nsq (.seq (rg (g1 3 (gV r3.1) h3 fun h52=>gm h4 fun h53=>?_)))
 obtain ⟨r4,Er4,h⟩:=zc h
 refine xT (m:=0) (al:=true) (r:=.tup [Enc.enc (r4.1:(List LI)),Enc.enc (r4.2:Bool)]) [Enc.enc (r3.1:GR),eL r3.2] (zf h52 rfl (Enc.erase_enc (r3.1:GR)) (zf h53 rfl (Enc.erase_enc (r3.2:LI)) zC)) (H.c6 _ _ _ Er4) H.g6 (we (yc (v:=gV r3.1) h52 rfl rfl (yc (v:=eL r3.2) h53 rfl rfl wd))) rfl rfl rfl (gm (rf (.tup [Enc.enc (r4.1:List LI),jb r4.2])) fun h51=>g1 51 (Enc.enc (r4.1:List LI)) h51 fun h55=>g1 51 (jb r4.2) h51 fun h56=>gm h55 fun h5=>gm h56 fun h6=>gq (.nsq (.seq (.seq (rg (g1 3 (gV r3.1) h3 fun h58=>gm h4 fun h59=>?_))))))
 obtain ⟨r5,Er5,h⟩:=zc h
 refine xT (m:=0) (al:=true) (r:=.tup [Enc.enc (r5.1:(List LI)),Enc.enc (r5.2:Bool)]) [Enc.enc (r3.1:GR),eL r3.2] (zf h58 rfl (Enc.erase_enc (r3.1:GR)) (zf h59 rfl (Enc.erase_enc (r3.2:LI)) zC)) (H.c7 _ _ _ Er5) H.g7 (we (yc (v:=gV r3.1) h58 rfl rfl (yc (v:=eL r3.2) h59 rfl rfl wd))) rfl rfl rfl (gm (rf (.tup [Enc.enc (r5.1:List LI),jb r5.2])) fun h57=>g1 57 (Enc.enc (r5.1:List LI)) h57 fun h61=>g1 57 (jb r5.2) h57 fun h62=>gm h61 fun h7=>gm h62 fun h8=>gq (.nsq (.seq (rg (gm h6 fun h63=>gm h8 fun h64=>g2 63 64 (jb (r4.2 != r5.2)) h63 h64 fun h65=>?_)))))
 refine gm h65 fun h66=>zX h (fun hg4 h=>?_) (fun hg4 h=>?_)
 · iterate 4 refine yq (ct h66 hg4) ?_
   refine g2 66 70 (jb true) (ct h66 hg4) (rf (.tup [])) fun h71=>gq ?_
   exact zcJ H x1 r3 r4 true _ ⟨h0,h2,h3,h4,h5,h6,h71⟩ h
 refine zp (ct h66 hg4) (gm h5 fun h67=>zp (ct h66 hg4) (gm h7 fun h68=>?_))
 obtain ⟨r91,Er91,h⟩:=zc h
 refine zp (ct h66 hg4) (gcF [Enc.enc (r4.1:(List LI)),Enc.enc (r5.1:(List LI))] (zf h67 rfl (Enc.erase_enc (r4.1:(List LI))) (zf h68 rfl (Enc.erase_enc (r5.1:(List LI))) zC)) (H.c8 _ _ _ Er91) H.g8 (zp (ct h66 hg4) (g1 69 (jb (!r91)) (rf (jb r91)) fun h70=>g2 66 70 (jb (!r91)) (ct h66 hg4) h70 fun h71=>gq ?_)))
 exact zcJ H x1 r3 r4 (!r91) _ ⟨h0,h2,h3,h4,h5,h6,h71⟩ h
end
def e3 (F:Nat):Ent:=ent 3 (fun (x:(LB×Unit))=>ue F x.1) (fun (r:Bool)=>(Enc.enc (r:Bool))) 0 false []
theorem p3 {F:Nat} {x0:LB} {r:Bool} (h:ue F x0=some r):(e3 F).den [Enc.enc x0]=some (Enc.enc (r:Bool)):=zS (x0,()) h
theorem o3 (hF:zG Try.prog D σ) (H:H3 D σ F):(e3 F).Ok Try.prog:=okZ (f:=3) Try.func3 fun ⟨x0,_⟩ y hy=>cR hF Try.func3 c3 (t3 H x0 _ rfl hy)
end Go.Zq
