/- The table of the functions' contracts. No further condition. -/
import Derived.Test.YtkmhlpopclahcacK4
import Derived.Test.YtkmhlpopclahcacKC
import Derived.Test.YtkmhlpopclahcacProg
import Derived.Test.YtkmhlpopclahcacChecked
import Derived.KernelRfl
import Derived.Test.YtkmhlpopclahcacG5
set_option linter.unusedVariables false
set_option linter.unusedSimpArgs false
namespace Go.Zq
open Go.Proofs Go.Shelf
variable {D:Den} {σ:Sig} {F:Nat}
def zdl (F:Nat):List Ent:=e4 F :: []
theorem zjB (F:Nat):zr Try.prog (tD (zdl F)) (tS (zdl F)):=zn (o4 (zcg) ⟨⟩) (zcg) (.inl rfl)
def zcZ (F:Nat):List Ent:=e79 F :: zdl F
theorem zjv (F:Nat):zr Try.prog (tD (zcZ F)) (tS (zcZ F)):=zn (o79 (zjB F) ⟨⟩) (zjB F) (.inl rfl)
def zdV (F:Nat):List Ent:=e48 F :: zcZ F
theorem zjg (F:Nat):zr Try.prog (tD (zdV F)) (tS (zdV F)):=zn (o48 (zjv F) ⟨p79,rfl⟩) (zjv F) (.inl rfl)
def zdT (F:Nat):List Ent:=e50 F :: zdV F
theorem zha (F:Nat):zr Try.prog (tD (zdT F)) (tS (zdT F)):=zn (o50 (zjg F) ⟨p48,rfl⟩) (zjg F) (.inl rfl)
def zc6 (F:Nat):List Ent:=e49 F :: zdT F
theorem zgR (F:Nat):zr Try.prog (tD (zc6 F)) (tS (zc6 F)):=zn (o49 (zha F) ⟨p48,rfl⟩) (zha F) (.inl rfl)
def zdI (F:Nat):List Ent:=e47 F :: zc6 F
theorem zhM (F:Nat):zr Try.prog (tD (zdI F)) (tS (zdI F)):=zn (o47 (zgR F) ⟨⟩) (zgR F) (.inl rfl)
def zdh (F:Nat):List Ent:=zm8 F :: zdI F
theorem zjy (F:Nat):zr Try.prog (tD (zdh F)) (tS (zdh F)):=zn (zuZ (zhM F) ⟨⟩) (zhM F) (.inl rfl)
def zdG (F:Nat):List Ent:=e62 F :: zdh F
theorem zhQ (F:Nat):zr Try.prog (tD (zdG F)) (tS (zdG F)):=zn (o62 (zjy F) ⟨⟩) (zjy F) (.inl rfl)
def zdM (F:Nat):List Ent:=znn F :: zdG F
theorem zjL (F:Nat):zr Try.prog (tD (zdM F)) (tS (zdM F)):=zn (zvQ (zhQ F) ⟨p62,rfl⟩) (zhQ F) (.inl rfl)
def zdU (F:Nat):List Ent:=znb F :: zdM F
theorem zhl (F:Nat):zr Try.prog (tD (zdU F)) (tS (zdU F)):=zn (zvj (zjL F) ⟨zuc,rfl,zsi,rfl⟩) (zjL F) (.inl rfl)
def Q4 (F:Nat):List Ent:=zmk F :: zdU F
theorem zd3 (F:Nat):zr Try.prog (tD (Q4 F)) (tS (Q4 F)):=zn (zu4 (zhl F) ⟨⟩) (zhl F) (.inl rfl)
def zaM (F:Nat):List Ent:=e43 F :: Q4 F
theorem zea (F:Nat):zr Try.prog (tD (zaM F)) (tS (zaM F)):=zn (o43 (zd3 F) ⟨⟩) (zd3 F) (.inl rfl)
def zbg (F:Nat):List Ent:=e77 F :: zaM F
theorem zeE (F:Nat):zr Try.prog (tD (zbg F)) (tS (zbg F)):=zn (o77 (zea F) ⟨⟩) (zea F) (.inl rfl)
def QC (F:Nat):List Ent:=e78 F :: zbg F
theorem zfz (F:Nat):zr Try.prog (tD (QC F)) (tS (QC F)):=zn (o78 (zeE F) ⟨p48,rfl,p50,rfl⟩) (zeE F) (.inl rfl)
def Q0 (F:Nat):List Ent:=e46 F :: QC F
theorem zeO (F:Nat):zr Try.prog (tD (Q0 F)) (tS (Q0 F)):=zn (o46 (zfz F) ⟨p50,rfl,p49,rfl,p48,rfl,p47,rfl,zuc,rfl,zuM,rfl,zv4,rfl,zsi,rfl,p43,rfl,p77,rfl,p78,rfl⟩) (zfz F) (.inl rfl)
def zaQ (F:Nat):List Ent:=e21 F :: Q0 F
theorem zfy (F:Nat):zr Try.prog (tD (zaQ F)) (tS (zaQ F)):=zn (o21 (zeO F) ⟨p46,rfl⟩) (zeO F) (.inl rfl)
def QZ (F:Nat):List Ent:=e22 F :: zaQ F
theorem zeg (F:Nat):zr Try.prog (tD (QZ F)) (tS (QZ F)):=zn (o22 (zfy F) ⟨p47,rfl,p48,rfl,p49,rfl,p50,rfl⟩) (zfy F) (.inl rfl)
def zbi (F:Nat):List Ent:=e5 F :: QZ F
theorem zez (F:Nat):zr Try.prog (tD (zbi F)) (tS (zbi F)):=zn (o5 (zeg F) ⟨p21,rfl,p22,rfl⟩) (zeg F) (.inl rfl)
def Q9 (F:Nat):List Ent:=e51 F :: zbi F
theorem zdZ (F:Nat):zr Try.prog (tD (Q9 F)) (tS (Q9 F)):=zn (o51 (zez F) ⟨⟩) (zez F) (.inl rfl)
def zar (F:Nat):List Ent:=e83 F :: Q9 F
theorem zeB (F:Nat):zr Try.prog (tD (zar F)) (tS (zar F)):=zn (o83 (zdZ F) ⟨⟩) (zdZ F) (.inl rfl)
def zaB (F:Nat):List Ent:=e80 F :: zar F
theorem zfM (F:Nat):zr Try.prog (tD (zaB F)) (tS (zaB F)):=zn (o80 (zeB F) ⟨p83,rfl⟩) (zeB F) (.inl rfl)
def zbt (F:Nat):List Ent:=e52 F :: zaB F
theorem zec (F:Nat):zr Try.prog (tD (zbt F)) (tS (zbt F)):=zn (o52 (zfM F) ⟨p80,rfl⟩) (zfM F) (.inl rfl)
def zaD (F:Nat):List Ent:=e23 F :: zbt F
theorem zfI (F:Nat):zr Try.prog (tD (zaD F)) (tS (zaD F)):=zn (o23 (zec F) ⟨p51,rfl,p52,rfl⟩) (zec F) (.inl rfl)
def zaH (F:Nat):List Ent:=e53 F :: zaD F
theorem zeu (F:Nat):zr Try.prog (tD (zaH F)) (tS (zaH F)):=zn (o53 (zfI F) ⟨p51,rfl⟩) (zfI F) (.inl rfl)
def zaN (F:Nat):List Ent:=e54 F :: zaH F
theorem zfd (F:Nat):zr Try.prog (tD (zaN F)) (tS (zaN F)):=zn (o54 (zeu F) ⟨⟩) (zeu F) (.inl rfl)
def zbk (F:Nat):List Ent:=e24 F :: zaN F
theorem zes (F:Nat):zr Try.prog (tD (zbk F)) (tS (zbk F)):=zn (o24 (zfd F) ⟨p53,rfl,p54,rfl⟩) (zfd F) (.inl rfl)
def zaS (F:Nat):List Ent:=e25 F :: zbk F
theorem zdY (F:Nat):zr Try.prog (tD (zaS F)) (tS (zaS F)):=zn (o25 (zes F) ⟨⟩) (zes F) (.inl rfl)
def zaY (F:Nat):List Ent:=e6 F :: zaS F
theorem ze3 (F:Nat):zr Try.prog (tD (zaY F)) (tS (zaY F)):=zn (o6 (zdY F) ⟨p23,rfl,p24,rfl,p25,rfl⟩) (zdY F) (.inl rfl)
def zab (F:Nat):List Ent:=e61 F :: zaY F
theorem zeW (F:Nat):zr Try.prog (tD (zab F)) (tS (zab F)):=zn (o61 (ze3 F) ⟨⟩) (ze3 F) (.inl rfl)
def QM (F:Nat):List Ent:=e33 F :: zab F
theorem zem (F:Nat):zr Try.prog (tD (QM F)) (tS (QM F)):=zn (o33 (zeW F) ⟨p61,rfl,p62,rfl⟩) (zeW F) (.inl rfl)
def QE (F:Nat):List Ent:=e64 F :: QM F
theorem zfC (F:Nat):zr Try.prog (tD (QE F)) (tS (QE F)):=zn (o64 (zem F) ⟨⟩) (zem F) (.inl rfl)
def zay (F:Nat):List Ent:=e55 F :: QE F
theorem zeH (F:Nat):zr Try.prog (tD (zay F)) (tS (zay F)):=zn (o55 (zfC F) ⟨p64,rfl⟩) (zfC F) (.inl rfl)
def zbh (F:Nat):List Ent:=e26 F :: zay F
theorem zdW (F:Nat):zr Try.prog (tD (zbh F)) (tS (zbh F)):=zn (o26 (zeH F) ⟨p33,rfl,p55,rfl⟩) (zeH F) (.inl rfl)
def zbs (F:Nat):List Ent:=e56 F :: zbh F
theorem zfq (F:Nat):zr Try.prog (tD (zbs F)) (tS (zbs F)):=zn (o56 (zdW F) ⟨⟩) (zdW F) (.inl rfl)
def zbu (F:Nat):List Ent:=e27 F :: zbs F
theorem zfo (F:Nat):zr Try.prog (tD (zbu F)) (tS (zbu F)):=zn (o27 (zfq F) ⟨p56,rfl,p43,rfl⟩) (zfq F) (.inl rfl)
def zaq (F:Nat):List Ent:=e7 F :: zbu F
theorem zew (F:Nat):zr Try.prog (tD (zaq F)) (tS (zaq F)):=zn (o7 (zfo F) ⟨p26,rfl,p27,rfl⟩) (zfo F) (.inl rfl)
def zan (F:Nat):List Ent:=e28 F :: zaq F
theorem zeb (F:Nat):zr Try.prog (tD (zan F)) (tS (zan F)):=zn (o28 (zew F) ⟨⟩) (zew F) (.inl rfl)
def zaj (F:Nat):List Ent:=e67 F :: zan F
theorem zex (F:Nat):zr Try.prog (tD (zaj F)) (tS (zaj F)):=zn (o67 (zeb F) ⟨⟩) (zeb F) (.inl rfl)
def Qz (F:Nat):List Ent:=e69 F :: zaj F
theorem zfJ (F:Nat):zr Try.prog (tD (Qz F)) (tS (Qz F)):=zn (o69 (zex F) ⟨⟩) (zex F) (.inl rfl)
def Q3 (F:Nat):List Ent:=e41 F :: Qz F
theorem zeX (F:Nat):zr Try.prog (tD (Q3 F)) (tS (Q3 F)):=zn (o41 (zfJ F) ⟨p69,rfl⟩) (zfJ F) (.inl rfl)
def QQ (F:Nat):List Ent:=e36 F :: Q3 F
theorem zel (F:Nat):zr Try.prog (tD (QQ F)) (tS (QQ F)):=zn (o36 (zeX F) ⟨p67,rfl,p41,rfl⟩) (zeX F) (.inl rfl)
def zbv (F:Nat):List Ent:=e29 F :: QQ F
theorem zeD (F:Nat):zr Try.prog (tD (zbv F)) (tS (zbv F)):=zn (o29 (zel F) ⟨p36,rfl⟩) (zel F) (.inl rfl)
def za4 (F:Nat):List Ent:=e8 F :: zbv F
theorem zfr (F:Nat):zr Try.prog (tD (za4 F)) (tS (za4 F)):=zn (o8 (zeD F) ⟨p23,rfl,p24,rfl,p28,rfl,p29,rfl⟩) (zeD F) (.inl rfl)
def QL (F:Nat):List Ent:=e39 F :: za4 F
theorem zfw (F:Nat):zr Try.prog (tD (QL F)) (tS (QL F)):=zn (o39 (zfr F) ⟨p64,rfl⟩) (zfr F) (.inl rfl)
def zas (F:Nat):List Ent:=e30 F :: QL F
theorem zd4 (F:Nat):zr Try.prog (tD (zas F)) (tS (zas F)):=zn (o30 (zfw F) ⟨p39,rfl⟩) (zfw F) (.inl rfl)
def QG (F:Nat):List Ent:=e9 F :: zas F
theorem zeq (F:Nat):zr Try.prog (tD (QG F)) (tS (QG F)):=zn (o9 (zd4 F) ⟨p26,rfl,p30,rfl⟩) (zd4 F) (.inl rfl)
def zaU (F:Nat):List Ent:=e10 F :: QG F
theorem zeI (F:Nat):zr Try.prog (tD (zaU F)) (tS (zaU F)):=zn (o10 (zeq F) ⟨p23,rfl,p24,rfl,p28,rfl,p29,rfl⟩) (zeq F) (.inl rfl)
def zba (F:Nat):List Ent:=e31 F :: zaU F
theorem zep (F:Nat):zr Try.prog (tD (zba F)) (tS (zba F)):=zn (o31 (zeI F) ⟨p43,rfl⟩) (zeI F) (.inl rfl)
def QH (F:Nat):List Ent:=e11 F :: zba F
theorem zfe (F:Nat):zr Try.prog (tD (QH F)) (tS (QH F)):=zn (o11 (zep F) ⟨p26,rfl,p30,rfl,p31,rfl⟩) (zep F) (.inl rfl)
def zaO (F:Nat):List Ent:=e57 F :: QH F
theorem zej (F:Nat):zr Try.prog (tD (zaO F)) (tS (zaO F)):=zn (o57 (zfe F) ⟨⟩) (zfe F) (.inl rfl)
def zaV (F:Nat):List Ent:=e58 F :: zaO F
theorem zfH (F:Nat):zr Try.prog (tD (zaV F)) (tS (zaV F)):=zn (o58 (zej F) ⟨p25,rfl⟩) (zej F) (.inl rfl)
def za9 (F:Nat):List Ent:=e59 F :: zaV F
theorem zfa (F:Nat):zr Try.prog (tD (za9 F)) (tS (za9 F)):=zn (o59 (zfH F) ⟨⟩) (zfH F) (.inl rfl)
def Ki (F:Nat):List Ent:=zmC F :: za9 F
theorem zeK (F:Nat):zr Try.prog (tD (Ki F)) (tS (Ki F)):=zn (zvJ (zfa F) ⟨⟩) (zfa F) (.inl rfl)
def za5 (F:Nat):List Ent:=e32 F F :: Ki F
theorem zfB (F:Nat):∀ k,zr Try.prog (tD (e32 F k :: Ki F)) (tS (e32 F k :: Ki F))
 | 0=>zn z32 (zeK F) (.inl rfl)
 | k + 1=>zn (o32 (zfB F k) ⟨p57,rfl,p58,rfl,p59,rfl,fun _ r h=>zv0 h,rfl,fun _ _ _ r h=>p32 (k:=k) h,rfl⟩) (zeK F) (.inl rfl)
theorem zfc (F:Nat):zr Try.prog (tD (za5 F)) (tS (za5 F)):=zfB F F
def zbp (F:Nat):List Ent:=e12 F :: za5 F
theorem zev (F:Nat):zr Try.prog (tD (zbp F)) (tS (zbp F)):=zn (o12 (zfc F) ⟨p23,rfl,p28,rfl,fun _ _ _ r h=>p32 (k:=F) h,rfl⟩) (zfc F) (.inl rfl)
def zaw (F:Nat):List Ent:=e81 F :: zbp F
theorem zfP (F:Nat):zr Try.prog (tD (zaw F)) (tS (zaw F)):=zn (o81 (zev F) ⟨p77,rfl⟩) (zev F) (.inl rfl)
def QD (F:Nat):List Ent:=e63 F :: zaw F
theorem zft (F:Nat):zr Try.prog (tD (QD F)) (tS (QD F)):=zn (o63 (zfP F) ⟨p81,rfl,p64,rfl,p56,rfl⟩) (zfP F) (.inl rfl)
def J8 (F:Nat):List Ent:=zmr F :: QD F
theorem zfi (F:Nat):zr Try.prog (tD (J8 F)) (tS (J8 F)):=zn (zu1 (zft F) ⟨⟩) (zft F) (.inl rfl)
def zbq (F:Nat):List Ent:=e34 F F :: J8 F
theorem zeF (F:Nat):∀ k,zr Try.prog (tD (e34 F k :: J8 F)) (tS (e34 F k :: J8 F))
 | 0=>zn z34 (zfi F) (.inl rfl)
 | k + 1=>zn (o34 (zeF F k) ⟨p63,rfl,p64,rfl,zu3,rfl,fun _ _ _ r h=>p34 (k:=k) h,rfl⟩) (zfi F) (.inl rfl)
theorem zer (F:Nat):zr Try.prog (tD (zbq F)) (tS (zbq F)):=zeF F F
def QY (F:Nat):List Ent:=e13 F :: zbq F
theorem zfD (F:Nat):zr Try.prog (tD (QY F)) (tS (QY F)):=zn (o13 (zer F) ⟨p33,rfl,fun _ _ _ r h=>p34 (k:=F) h,rfl⟩) (zer F) (.inl rfl)
def QI (F:Nat):List Ent:=e66 F :: QY F
theorem zee (F:Nat):zr Try.prog (tD (QI F)) (tS (QI F)):=zn (o66 (zfD F) ⟨⟩) (zfD F) (.inl rfl)
def Q2 (F:Nat):List Ent:=zjh F :: QI F
theorem zeN (F:Nat):zr Try.prog (tD (Q2 F)) (tS (Q2 F)):=zn (zoM (zee F) ⟨p66,rfl,p67,rfl,p36,rfl⟩) (zee F) (.inl rfl)
def zaP (F:Nat):List Ent:=zhS F :: Q2 F
theorem ze5 (F:Nat):zr Try.prog (tD (zaP F)) (tS (zaP F)):=zn (zud (zeN F) ⟨p66,rfl,p67,rfl,p36,rfl⟩) (zeN F) (.inl rfl)
def QS (F:Nat):List Ent:=e14 F :: zaP F
theorem zfl (F:Nat):zr Try.prog (tD (QS F)) (tS (QS F)):=zn (o14 (ze5 F) ⟨p23,rfl,p28,rfl,zo9,rfl,zun,rfl⟩) (ze5 F) (.inl rfl)
def zbw (F:Nat):List Ent:=e40 F :: QS F
theorem zeC (F:Nat):zr Try.prog (tD (zbw F)) (tS (zbw F)):=zn (o40 (zfl F) ⟨⟩) (zfl F) (.inl rfl)
def QP (F:Nat):List Ent:=e38 F :: zbw F
theorem zfx (F:Nat):zr Try.prog (tD (QP F)) (tS (QP F)):=zn (o38 (zeC F) ⟨p40,rfl,p39,rfl,p43,rfl⟩) (zeC F) (.inl rfl)
def QB (F:Nat):List Ent:=e15 F :: QP F
theorem zeV (F:Nat):zr Try.prog (tD (QB F)) (tS (QB F)):=zn (o15 (zfx F) ⟨p33,rfl,p38,rfl,p40,rfl,p39,rfl⟩) (zfx F) (.inl rfl)
def zbj (F:Nat):List Ent:=e70 F :: QB F
theorem zfL (F:Nat):zr Try.prog (tD (zbj F)) (tS (zbj F)):=zn (o70 (zeV F) ⟨⟩) (zeV F) (.inl rfl)
def QV (F:Nat):List Ent:=e42 F :: zbj F
theorem ze9 (F:Nat):zr Try.prog (tD (QV F)) (tS (QV F)):=zn (o42 (zfL F) ⟨p70,rfl⟩) (zfL F) (.inl rfl)
def zac (F:Nat):List Ent:=e16 F :: QV F
theorem zeR (F:Nat):zr Try.prog (tD (zac F)) (tS (zac F)):=zn (o16 (ze9 F) ⟨p23,rfl,p28,rfl,p42,rfl,p41,rfl⟩) (ze9 F) (.inl rfl)
def Q1 (F:Nat):List Ent:=e71 F :: zac F
theorem zeT (F:Nat):zr Try.prog (tD (Q1 F)) (tS (Q1 F)):=zn (o71 (zeR F) ⟨p77,rfl⟩) (zeR F) (.inl rfl)
def Q6 (F:Nat):List Ent:=e44 F :: Q1 F
theorem ze1 (F:Nat):zr Try.prog (tD (Q6 F)) (tS (Q6 F)):=zn (o44 (zeT F) ⟨p71,rfl,p61,rfl⟩) (zeT F) (.inl rfl)
def za8 (F:Nat):List Ent:=e17 F :: Q6 F
theorem zfF (F:Nat):zr Try.prog (tD (za8 F)) (tS (za8 F)):=zn (o17 (ze1 F) ⟨p33,rfl,p44,rfl,p43,rfl⟩) (ze1 F) (.inl rfl)
def zbl (F:Nat):List Ent:=e18 F :: za8 F
theorem zfk (F:Nat):zr Try.prog (tD (zbl F)) (tS (zbl F)):=zn (o18 (zfF F) ⟨⟩) (zfF F) (.inl rfl)
def QF (F:Nat):List Ent:=e82 F :: zbl F
theorem zei (F:Nat):zr Try.prog (tD (QF F)) (tS (QF F)):=zn (o82 (zfk F) ⟨p67,rfl⟩) (zfk F) (.inl rfl)
def za7 (F:Nat):List Ent:=e72 F :: QF F
theorem zfs (F:Nat):zr Try.prog (tD (za7 F)) (tS (za7 F)):=zn (o72 (zei F) ⟨p82,rfl,p41,rfl⟩) (zei F) (.inl rfl)
def zav (F:Nat):List Ent:=zgW F :: za7 F
theorem zek (F:Nat):zr Try.prog (tD (zav F)) (tS (zav F)):=zn (zs8 (zfs F) ⟨p66,rfl,p67,rfl,p72,rfl⟩) (zfs F) (.inr rfl)
def zax (F:Nat):List Ent:=e45 F :: zav F
theorem zeJ (F:Nat):zr Try.prog (tD (zax F)) (tS (zax F)):=zn (o45 (zek F) ⟨zp9,rfl⟩) (zek F) (.inl rfl)
def QR (F:Nat):List Ent:=e19 F :: zax F
theorem zd2 (F:Nat):zr Try.prog (tD (QR F)) (tS (QR F)):=zn (o19 (zeJ F) ⟨p23,rfl,p28,rfl,p45,rfl⟩) (zeJ F) (.inl rfl)
def Q7 (F:Nat):List Ent:=e20 F :: QR F
theorem zd5 (F:Nat):zr Try.prog (tD (Q7 F)) (tS (Q7 F)):=zn (o20 (zd2 F) ⟨⟩) (zd2 F) (.inl rfl)
def zeQ (F:Nat):List Ent:=e3 F :: Q7 F
theorem zkR (F:Nat):zr Try.prog (tD (zeQ F)) (tS (zeQ F)):=zn (o3 (zd5 F) ⟨p4,rfl,p5,rfl,p6,rfl,p7,rfl,p8,rfl,p9,rfl,p10,rfl,p11,rfl,p12,rfl,p13,rfl,p14,rfl,p15,rfl,p16,rfl,p17,rfl,p18,rfl,p19,rfl,p20,rfl⟩) (zd5 F) (.inl rfl)
theorem zwq (F:Nat) (x0:LB) (h:vc F x0=some true):Yx Try.prog 3 0 false [Enc.enc x0] (.bool true):=MK ((zkR F).con 3 _ _ 0 false (p3 h) rfl) rfl rfl
end Go.Zq
