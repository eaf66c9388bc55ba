import Derived.Test.YtljahlbklgnfhaaGreatDoorLG
import Derived.Test.YtljahlbklgnfhaaGreatDoorIT
import Derived.Test.YtljahlbklgnfhaaGreatDoorPR
import Derived.Test.YtljahlbklgnfhaaGreatDoorW1
import Derived.Test.YtljahlbklgnfhaaGreatDoorW2
import Derived.Test.YtljahlbklgnfhaaGreatDoorW3
import Derived.Test.YtljahlbklgnfhaaGreatDoorW4
import Derived.Test.YtljahlbklgnfhaaGreatDoorW5
import Derived.Test.YtljahlbklgnfhaaGreatDoorW6
import Derived.Test.YtljahlbklgnfhaaGreatDoorW7
import Derived.Test.YtljahlbklgnfhaaGreatDoorW8
import Derived.Test.YtljahlbklgnfhaaGreatDoorW9
import Derived.Test.YtljahlbklgnfhaaGreatDoorW10
set_option linter.unusedVariables false
set_option linter.unusedSimpArgs false
set_option linter.defProp false
namespace Go.Abs.U48
open Go.RowKit Go.Proofs
theorem gL_String:GoodH env SL_String:=⟨by rintro b s h;exact g_L_String b s h,⟨Tryz.f36,fn_36,rfl,by kernel_rfl⟩⟩
theorem gL_IndexByte:GoodH env SL_IndexByte:=⟨by rintro⟨s,c⟩ n h;exact g_L_IndexByte s c n h,⟨Tryz.f40,fn_40,rfl,by kernel_rfl⟩⟩
theorem gL_Join:GoodH env SL_Join:=⟨by rintro⟨xs,sep⟩ s h;exact g_L_Join xs sep s h,⟨Tryz.f119,fn_119,rfl,by kernel_rfl⟩⟩
theorem gL_WriteByte:GoodH env SL_WriteByte:=⟨by rintro⟨b,c⟩ d h;exact g_L_WriteByte b c d h,⟨Tryz.f121,fn_121,rfl,by kernel_rfl⟩⟩
theorem gL_WriteString:GoodH env SL_WriteString:=⟨by rintro⟨b,s⟩ ⟨n,c⟩ h;exact g_L_WriteString b s n c h,⟨Tryz.f123,fn_123,rfl,by kernel_rfl⟩⟩
theorem gL_Repeat:GoodH env SL_Repeat:=⟨by rintro⟨s,n⟩ t h;exact g_L_Repeat s n t h,⟨Tryz.f124,fn_124,rfl,by kernel_rfl⟩⟩
theorem gL_Split:GoodH env SL_Split:=⟨by rintro⟨s,sep⟩ l h;exact g_L_Split s sep l h,⟨Tryz.f156,fn_156,rfl,by kernel_rfl⟩⟩
theorem gL_Contains:GoodH env SL_Contains:=⟨by rintro⟨xs,s⟩ ok h;exact g_L_Contains xs s ok h,⟨Tryz.f157,fn_157,rfl,by kernel_rfl⟩⟩
theorem gL_Cut:GoodH env SL_Cut:=⟨by rintro⟨s,sep⟩ ⟨a,b,ok⟩ h;exact g_L_Cut s sep a b ok h,⟨Tryz.f161,fn_161,rfl,by kernel_rfl⟩⟩
theorem gL_SContains:GoodH env SL_SContains:=⟨by rintro⟨s,p⟩ ok h;exact g_L_SContains s p ok h,⟨Tryz.f169,fn_169,rfl,by kernel_rfl⟩⟩
theorem gL_Itoa:GoodH env SL_Itoa:=⟨by rintro n s h;exact g_L_Itoa n s h,⟨Tryz.f189,fn_189,rfl,by kernel_rfl⟩⟩
theorem gL_Atoi:GoodH env SL_Atoi:=⟨by rintro s ⟨n,bad⟩ h;exact g_L_Atoi s n bad h,⟨Tryz.f199,fn_199,rfl,by kernel_rfl⟩⟩
theorem gL_ReplaceAll:GoodH env SL_ReplaceAll:=⟨by rintro⟨s,a,b⟩ t h;exact g_L_ReplaceAll s a b t h,⟨Tryz.f216,fn_216,rfl,by kernel_rfl⟩⟩
theorem gG28:∀n,GoodH env (S28 (K28 n))∧GoodH env (S62 (K62 n))
 | 0=>⟨GH0 ⟨Tryz.f28,fn_28,rfl,by kernel_rfl⟩ (fun⟨_,_⟩=>rfl),GH0 ⟨Tryz.f62,fn_62,rfl,by kernel_rfl⟩ (fun⟨_,_⟩=>rfl)⟩
 | n+1=>by
  have ih:=gG28 n
  obtain⟨ih28,ih62⟩:=ih
  have hF28:GoodH env (S28 (F28 (K28 n) (K62 n))):=g_F28 ⟨ih62,ih28,trivial⟩
  have hF62:GoodH env (S62 (F62 (K28 n) (K62 n))):=g_F62 ⟨ih62,ih28,trivial⟩
  exact⟨hF28,hF62⟩
theorem gK28(n:Nat):GoodH env (S28 (K28 n)):=(gG28 n).1
theorem G_F12:GoodH env (S12 F12):=g_F12 ⟨(gK28 BIG),trivial⟩
theorem G_F74:GoodH env (S74 F74):=g_F74 trivial
theorem G_F42:GoodH env (S42 F42):=g_F42 ⟨G_F74,trivial⟩
theorem G_F117:GoodH env (S117 F117):=g_F117 ⟨gL_Cut,trivial⟩
theorem G_F118:GoodH env (S118 F118):=g_F118 trivial
theorem G_F72:GoodH env (S72 F72):=g_F72 ⟨G_F117,G_F118,gL_Join,trivial⟩
theorem G_F73x2:GoodH env (S73x2 F73x2):=g_F73x2 trivial
theorem G_F71x2:GoodH env (S71x2 F71x2):=g_F71x2 ⟨G_F73x2,trivial⟩
theorem G_F39x2:GoodH env (S39x2 F39x2):=g_F39x2 trivial
theorem G_F38x2:GoodH env (S38x2 F38x2):=g_F38x2 ⟨G_F39x2,G_F42,trivial⟩
theorem G_F41x2:GoodH env (S41x2 F41x2):=g_F41x2 ⟨G_F71x2,G_F72,G_F73x2,trivial⟩
theorem G_F120x1:GoodH env (S120x1 F120x1):=g_F120x1 ⟨G_F39x2,gL_IndexByte,G_F42,trivial⟩
theorem G_F122x1:GoodH env (S122x1 F122x1):=g_F122x1 ⟨G_F39x2,gL_IndexByte,G_F73x2,gL_WriteString,G_F42,gL_String,gL_WriteByte,trivial⟩
theorem G_F75x1:GoodH env (S75x1 F75x1):=g_F75x1 ⟨G_F120x1,gL_WriteByte,G_F39x2,G_F42,G_F122x1,gL_WriteString,gL_Repeat,gL_String,trivial⟩
theorem G_F43x1:GoodH env (S43x1 F43x1):=g_F43x1 ⟨G_F38x2,G_F75x1,G_F73x2,G_F71x2,trivial⟩
theorem G_F76:GoodH env (S76 F76):=g_F76 trivial
theorem G_F166:GoodH env (S166 F166):=g_F166 ⟨gL_Atoi,gL_Itoa,trivial⟩
theorem G_F125:GoodH env (S125 F125):=g_F125 ⟨gL_IndexByte,gL_Cut,G_F166,trivial⟩
theorem G_F77:GoodH env (S77 F77):=g_F77 ⟨G_F39x2,G_F42,gL_IndexByte,G_F125,G_F73x2,trivial⟩
theorem G_F78:GoodH env (S78 F78):=g_F78 ⟨gL_IndexByte,G_F71x2,trivial⟩
theorem G_F126:GoodH env (S126 F126):=g_F126 trivial
theorem G_F79:GoodH env (S79 F79):=g_F79 ⟨G_F126,G_F73x2,gL_Repeat,G_F71x2,trivial⟩
theorem G_F44:GoodH env (S44 F44):=g_F44 ⟨G_F76,G_F77,G_F78,G_F79,G_F75x1,trivial⟩
theorem G_F19:GoodH env (S19 F19):=g_F19 ⟨G_F38x2,G_F39x2,gL_IndexByte,G_F41x2,G_F42,G_F43x1,G_F44,trivial⟩
theorem G_F46:GoodH env (S46 F46):=g_F46 ⟨G_F72,trivial⟩
theorem G_F84:GoodH env (S84 F84):=g_F84 trivial
theorem G_F128:GoodH env (S128 F128):=g_F128 trivial
theorem G_F127:GoodH env (S127 F127):=g_F127 ⟨G_F84,G_F128,trivial⟩
theorem G_F80:GoodH env (S80 F80):=g_F80 ⟨G_F84,G_F127,trivial⟩
theorem G_F133:GoodH env (S133 F133):=g_F133 ⟨gL_IndexByte,trivial⟩
theorem G_F134:GoodH env (S134 F134):=g_F134 ⟨gL_IndexByte,gL_SContains,trivial⟩
theorem G_F83:GoodH env (S83 F83):=g_F83 ⟨G_F133,G_F134,trivial⟩
theorem G_F129:GoodH env (S129 F129):=g_F129 ⟨G_F128,trivial⟩
theorem G_F130:GoodH env (S130 F130):=g_F130 trivial
theorem G_F81:GoodH env (S81 F81):=g_F81 ⟨G_F84,G_F83,G_F128,G_F129,G_F130,trivial⟩
theorem G_F132:GoodH env (S132 F132):=g_F132 ⟨G_F127,trivial⟩
theorem G_F168:GoodH env (S168 F168):=g_F168 ⟨G_F84,trivial⟩
theorem G_F48:GoodH env (S48 F48):=g_F48 trivial
theorem G_F144:GoodH env (S144 F144):=g_F144 trivial
theorem G_F255:GoodH env (S255 F255):=g_F255 ⟨G_F84,G_F132,G_F48,trivial⟩
theorem G_F288:GoodH env (S288 F288):=g_F288 ⟨G_F74,trivial⟩
theorem G_F276:GoodH env (S276 F276):=g_F276 ⟨G_F288,trivial⟩
theorem G_F155:GoodH env (S155 F155):=g_F155 trivial
theorem G_F287:GoodH env (S287 F287):=g_F287 ⟨G_F155,trivial⟩
theorem G_F275:GoodH env (S275 F275):=g_F275 ⟨G_F287,trivial⟩
theorem G_F277:GoodH env (S277 F277):=g_F277 ⟨gL_Atoi,trivial⟩
theorem G_F256:GoodH env (S256 F256):=g_F256 ⟨G_F84,G_F133,G_F144,G_F48,trivial⟩
theorem gG47:∀n,GoodH env (S200 (K200 n))∧GoodH env (S252 (K252 n))
 | 0=>⟨GH0 ⟨Tryz.f200,fn_200,rfl,by kernel_rfl⟩ (fun⟨_,_,_,_,_⟩=>rfl),GH0 ⟨Tryz.f252,fn_252,rfl,by kernel_rfl⟩ (fun⟨_,_,_,_⟩=>rfl)⟩
 | n+1=>by
  have ih:=gG47 n
  obtain⟨ih200,ih252⟩:=ih
  have hF167:GoodH env (S167 (F167 (K200 n))):=g_F167 ⟨ih200,G_F132,G_F168,trivial⟩
  have hF131:GoodH env (S131 (F131 (K200 n))):=g_F131 ⟨hF167,G_F132,G_F168,trivial⟩
  have hF82:GoodH env (S82 (F82 (K200 n))):=g_F82 ⟨hF131,G_F132,trivial⟩
  have hF47:GoodH env (S47 (F47 (K200 n))):=g_F47 ⟨G_F80,G_F81,hF82,G_F84,G_F83,G_F48,trivial⟩
  have hF223:GoodH env (S223 (F223 (K200 n) (K252 n))):=g_F223 ⟨G_F84,ih252,G_F81,ih200,trivial⟩
  have hF224:GoodH env (S224 (F224 (K200 n))):=g_F224 ⟨G_F84,G_F168,ih200,trivial⟩
  have hF253:GoodH env (S253 (F253 (K200 n))):=g_F253 ⟨G_F255,hF47,trivial⟩
  have hF254:GoodH env (S254 (F254 (K252 n))):=g_F254 ⟨G_F84,gL_Repeat,gL_IndexByte,G_F42,G_F276,G_F275,gL_Cut,G_F277,ih252,trivial⟩
  have hF225:GoodH env (S225 (F225 (K200 n) (K252 n))):=g_F225 ⟨G_F84,hF253,G_F130,hF254,trivial⟩
  have hF226:GoodH env (S226 (F226 (K200 n))):=g_F226 ⟨G_F84,G_F255,hF47,G_F168,ih200,trivial⟩
  have hF257:GoodH env (S257 (F257 (K252 n))):=g_F257 ⟨G_F168,G_F84,G_F129,ih252,trivial⟩
  have hF227:GoodH env (S227 (F227 (K200 n) (K252 n))):=g_F227 ⟨G_F84,G_F255,G_F256,G_F83,hF257,G_F168,ih200,trivial⟩
  have hF258:GoodH env (S258 (F258 (K200 n) (K252 n))):=g_F258 ⟨G_F84,ih252,G_F129,G_F80,hF47,trivial⟩
  have hF228:GoodH env (S228 (F228 (K200 n) (K252 n))):=g_F228 ⟨G_F84,ih252,G_F255,G_F80,G_F83,hF258,trivial⟩
  have hF229:GoodH env (S229 (F229 (K200 n))):=g_F229 ⟨G_F84,G_F256,G_F127,hF253,trivial⟩
  have hF230:GoodH env (S230 (F230 (K252 n))):=g_F230 ⟨G_F84,ih252,G_F129,trivial⟩
  have hF231:GoodH env (S231 (F231 (K252 n))):=g_F231 ⟨G_F84,G_F83,G_F48,G_F129,ih252,G_F130,hF254,trivial⟩
  have hF200:GoodH env (S200 (F200 (K200 n) (K252 n))):=g_F200 ⟨G_F84,G_F133,G_F144,G_F128,hF223,hF224,hF225,G_F83,hF226,hF227,hF228,hF229,hF230,G_F48,G_F81,hF231,trivial⟩
  have hF286:GoodH env (S286 (F286 (K252 n))):=g_F286 ⟨G_F84,G_F256,G_F127,hF257,G_F48,G_F255,trivial⟩
  have hF274:GoodH env (S274 (F274 (K200 n) (K252 n))):=g_F274 ⟨G_F84,G_F129,G_F48,hF286,G_F256,hF257,G_F255,hF253,trivial⟩
  have hF252:GoodH env (S252 (F252 (K200 n) (K252 n))):=g_F252 ⟨hF274,G_F132,trivial⟩
  exact⟨hF200,hF252⟩
theorem gK200(n:Nat):GoodH env (S200 (K200 n)):=(gG47 n).1
theorem gO_F167:GoodH env (S167 (F167 (K200 BIG))):=g_F167 ⟨(gK200 BIG),G_F132,G_F168,trivial⟩
theorem gO_F131:GoodH env (S131 (F131 (K200 BIG))):=g_F131 ⟨gO_F167,G_F132,G_F168,trivial⟩
theorem gO_F82:GoodH env (S82 (F82 (K200 BIG))):=g_F82 ⟨gO_F131,G_F132,trivial⟩
theorem gO_F47:GoodH env (S47 (F47 (K200 BIG))):=g_F47 ⟨G_F80,G_F81,gO_F82,G_F84,G_F83,G_F48,trivial⟩
theorem G_F20:GoodH env (S20 F20):=g_F20 ⟨G_F46,gO_F47,G_F48,trivial⟩
theorem G_F32:GoodH env (S32 F32):=g_F32 trivial
theorem gG15:∀n,GoodH env (S15 (K15 n))∧GoodH env (S31 (K31 n))
 | 0=>⟨GH0 ⟨Tryz.f15,fn_15,rfl,by kernel_rfl⟩ (fun _=>rfl),GH0 ⟨Tryz.f31,fn_31,rfl,by kernel_rfl⟩ (fun _=>rfl)⟩
 | n+1=>by
  have ih:=gG15 n
  obtain⟨ih15,ih31⟩:=ih
  have hF15:GoodH env (S15 (F15 (K15 n) (K31 n))):=g_F15 ⟨ih15,ih31,G_F32,trivial⟩
  have hF31:GoodH env (S31 (F31 (K15 n) (K31 n))):=g_F31 ⟨ih15,ih31,trivial⟩
  exact⟨hF15,hF31⟩
theorem gK15(n:Nat):GoodH env (S15 (K15 n)):=(gG15 n).1
theorem gG51:∀n,GoodH env (S51 (K51 n))∧GoodH env (S86 (K86 n))
 | 0=>⟨GH0 ⟨Tryz.f51,fn_51,rfl,by kernel_rfl⟩ (fun _=>rfl),GH0 ⟨Tryz.f86,fn_86,rfl,by kernel_rfl⟩ (fun _=>rfl)⟩
 | n+1=>by
  have ih:=gG51 n
  obtain⟨ih51,ih86⟩:=ih
  have hF51:GoodH env (S51 (F51 (K51 n) (K86 n))):=g_F51 ⟨ih51,ih86,G_F32,trivial⟩
  have hF86:GoodH env (S86 (F86 (K51 n) (K86 n))):=g_F86 ⟨ih86,ih51,trivial⟩
  exact⟨hF51,hF86⟩
theorem gK51(n:Nat):GoodH env (S51 (K51 n)):=(gG51 n).1
theorem G_F50:GoodH env (S50 F50):=g_F50 ⟨(gK51 BIG),trivial⟩
theorem G_F85:GoodH env (S85 F85):=g_F85 ⟨G_F50,trivial⟩
theorem G_F49:GoodH env (S49 F49):=g_F49 ⟨G_F85,trivial⟩
theorem G_F21:GoodH env (S21 F21):=g_F21 ⟨(gK15 BIG),G_F49,trivial⟩
theorem G_F8:GoodH env (S8 F8):=g_F8 ⟨G_F19,G_F20,G_F21,trivial⟩
theorem G_F99:GoodH env (S99 F99):=g_F99 ⟨G_F144,trivial⟩
theorem G_F108:GoodH env (S108 F108):=g_F108 ⟨G_F155,trivial⟩
theorem G_F263:GoodH env (S263 F263):=g_F263 trivial
theorem G_F264:GoodH env (S264 F264):=g_F264 trivial
theorem G_F278:GoodH env (S278 F278):=g_F278 ⟨G_F263,gL_IndexByte,trivial⟩
theorem gG29:∀n,GoodH env (S98 (K98 n))∧GoodH env (S182 (K182 n))∧GoodH env (S260 (K260 n))
 | 0=>⟨GH0 ⟨Tryz.f98,fn_98,rfl,by kernel_rfl⟩ (fun _=>rfl),GH0 ⟨Tryz.f182,fn_182,rfl,by kernel_rfl⟩ (fun _=>rfl),GH0 ⟨Tryz.f260,fn_260,rfl,by kernel_rfl⟩ (fun _=>rfl)⟩
 | n+1=>by
  have ih:=gG29 n
  obtain⟨ih98,ih182,ih260⟩:=ih
  have hF64:GoodH env (S64 (F64 (K98 n))):=g_F64 ⟨ih98,G_F99,trivial⟩
  have hF63:GoodH env (S63 (F63 (K98 n))):=g_F63 ⟨hF64,trivial⟩
  have hF85x1:GoodH env (S85x1 (F85x1 (K98 n))):=g_F85x1 ⟨hF63,trivial⟩
  have hF49x1:GoodH env (S49x1 (F49x1 (K98 n))):=g_F49x1 ⟨hF85x1,trivial⟩
  have hF29:GoodH env (S29 (F29 (K98 n))):=g_F29 ⟨hF49x1,trivial⟩
  have hF183:GoodH env (S183 (F183 (K182 n))):=g_F183 ⟨ih182,trivial⟩
  have hF85x2:GoodH env (S85x2 (F85x2 (K182 n))):=g_F85x2 ⟨hF183,trivial⟩
  have hF49x2:GoodH env (S49x2 (F49x2 (K182 n))):=g_F49x2 ⟨hF85x2,trivial⟩
  have hF143:GoodH env (S143 (F143 (K182 n))):=g_F143 ⟨ih182,G_F99,hF49x2,trivial⟩
  have hF98:GoodH env (S98 (F98 (K98 n) (K182 n))):=g_F98 ⟨hF143,G_F99,ih98,trivial⟩
  have hF261:GoodH env (S261 (F261 (K260 n))):=g_F261 ⟨ih260,trivial⟩
  have hF259x1:GoodH env (S259x1 (F259x1 (K260 n))):=g_F259x1 ⟨hF261,trivial⟩
  have hF232x1:GoodH env (S232x1 (F232x1 (K260 n))):=g_F232x1 ⟨hF259x1,trivial⟩
  have hF234:GoodH env (S234 (F234 (K260 n))):=g_F234 ⟨ih260,hF232x1,trivial⟩
  have hF233:GoodH env (S233 (F233 (K260 n))):=g_F233 ⟨hF234,trivial⟩
  have hF259:GoodH env (S259 (F259 (K260 n))):=g_F259 ⟨hF233,trivial⟩
  have hF232:GoodH env (S232 (F232 (K260 n))):=g_F232 ⟨hF259,trivial⟩
  have hF207:GoodH env (S207 (F207 (K260 n))):=g_F207 ⟨hF232,trivial⟩
  have hF208:GoodH env (S208 (F208 (K182 n))):=g_F208 ⟨ih182,trivial⟩
  have hF237:GoodH env (S237 (F237 (K260 n))):=g_F237 ⟨hF234,G_F108,G_F263,gL_IndexByte,G_F264,trivial⟩
  have hF236:GoodH env (S236 (F236 (K260 n))):=g_F236 ⟨hF237,trivial⟩
  have hF262:GoodH env (S262 (F262 (K260 n))):=g_F262 ⟨hF236,trivial⟩
  have hF235:GoodH env (S235 (F235 (K260 n))):=g_F235 ⟨hF262,trivial⟩
  have hF209:GoodH env (S209 (F209 (K260 n))):=g_F209 ⟨hF235,trivial⟩
  have hF210:GoodH env (S210 (F210 (K98 n))):=g_F210 ⟨G_F99,hF29,trivial⟩
  have hF212:GoodH env (S212 (F212 (K98 n) (K260 n))):=g_F212 ⟨G_F99,hF207,hF29,trivial⟩
  have hF211:GoodH env (S211 (F211 (K98 n) (K260 n))):=g_F211 ⟨hF212,trivial⟩
  have hF85x3:GoodH env (S85x3 (F85x3 (K98 n) (K260 n))):=g_F85x3 ⟨hF211,trivial⟩
  have hF49x3:GoodH env (S49x3 (F49x3 (K98 n) (K260 n))):=g_F49x3 ⟨hF85x3,trivial⟩
  have hF213:GoodH env (S213 (F213 (K260 n))):=g_F213 ⟨hF207,hF209,gL_IndexByte,G_F134,trivial⟩
  have hF182:GoodH env (S182 (F182 (K98 n) (K182 n) (K260 n))):=g_F182 ⟨G_F99,hF207,hF208,hF29,hF209,hF210,ih182,hF49x3,hF213,trivial⟩
  have hF260:GoodH env (S260 (F260 (K98 n) (K260 n))):=g_F260 ⟨G_F144,G_F278,hF207,hF29,trivial⟩
  exact⟨hF98,hF182,hF260⟩
theorem gK98(n:Nat):GoodH env (S98 (K98 n)):=(gG29 n).1
theorem gO_F64:GoodH env (S64 (F64 (K98 BIG))):=g_F64 ⟨(gK98 BIG),G_F99,trivial⟩
theorem gO_F63:GoodH env (S63 (F63 (K98 BIG))):=g_F63 ⟨gO_F64,trivial⟩
theorem gO_F85x1:GoodH env (S85x1 (F85x1 (K98 BIG))):=g_F85x1 ⟨gO_F63,trivial⟩
theorem gO_F49x1:GoodH env (S49x1 (F49x1 (K98 BIG))):=g_F49x1 ⟨gO_F85x1,trivial⟩
theorem gO_F29:GoodH env (S29 (F29 (K98 BIG))):=g_F29 ⟨gO_F49x1,trivial⟩
theorem G_F13:GoodH env (S13 F13):=g_F13 ⟨G_F21,gO_F29,trivial⟩
theorem G_F36:GoodH env (S36 F36):=g_F36 trivial
theorem G_F163:GoodH env (S163 F163):=g_F163 trivial
theorem G_F123:GoodH env (S123 F123):=g_F123 ⟨G_F163,trivial⟩
theorem G_F103:GoodH env (S103 F103):=g_F103 ⟨G_F123,trivial⟩
theorem G_F109:GoodH env (S109 F109):=g_F109 ⟨gL_Split,gL_Contains,trivial⟩
theorem G_F67:GoodH env (S67 F67):=g_F67 ⟨G_F36,G_F108,G_F103,G_F109,trivial⟩
theorem G_F188:GoodH env (S188 F188):=g_F188 ⟨gL_Itoa,trivial⟩
theorem G_F190:GoodH env (S190 F190):=g_F190 ⟨G_F103,gL_ReplaceAll,trivial⟩
theorem gG35:∀n,GoodH env (S66 (K66 n))∧GoodH env (S152 (K152 n))
 | 0=>⟨GH0 ⟨Tryz.f66,fn_66,rfl,by kernel_rfl⟩ (fun⟨_,_,_⟩=>rfl),GH0 ⟨Tryz.f152,fn_152,rfl,by kernel_rfl⟩ (fun⟨_,_,_⟩=>rfl)⟩
 | n+1=>by
  have ih:=gG35 n
  obtain⟨ih66,ih152⟩:=ih
  have hF35:GoodH env (S35 (F35 (K66 n))):=g_F35 ⟨ih66,G_F67,trivial⟩
  have hF102:GoodH env (S102 (F102 (K66 n))):=g_F102 ⟨G_F103,ih66,trivial⟩
  have hF104:GoodH env (S104 (F104 (K66 n))):=g_F104 ⟨G_F103,G_F67,hF35,trivial⟩
  have hF151:GoodH env (S151 (F151 (K152 n))):=g_F151 ⟨G_F188,G_F103,gL_Itoa,ih152,G_F109,trivial⟩
  have hF105:GoodH env (S105 (F105 (K152 n))):=g_F105 ⟨G_F103,hF151,trivial⟩
  have hF106:GoodH env (S106 (F106 (K152 n))):=g_F106 ⟨G_F103,ih152,hF151,hF105,trivial⟩
  have hF153:GoodH env (S153 (F153 (K152 n))):=g_F153 ⟨G_F103,ih152,trivial⟩
  have hF154:GoodH env (S154 (F154 (K66 n) (K152 n))):=g_F154 ⟨G_F103,hF153,G_F67,hF35,trivial⟩
  have hF107:GoodH env (S107 (F107 (K66 n) (K152 n))):=g_F107 ⟨G_F103,ih152,hF102,hF104,ih66,hF153,hF154,trivial⟩
  have hF66:GoodH env (S66 (F66 (K66 n) (K152 n))):=g_F66 ⟨hF102,G_F103,hF104,hF105,hF106,hF107,trivial⟩
  have hF191:GoodH env (S191 (F191 (K152 n))):=g_F191 ⟨G_F103,ih152,trivial⟩
  have hF152:GoodH env (S152 (F152 (K66 n) (K152 n))):=g_F152 ⟨G_F190,G_F103,hF191,hF104,trivial⟩
  exact⟨hF66,hF152⟩
theorem gK66(n:Nat):GoodH env (S66 (K66 n)):=(gG35 n).1
theorem gO_F35:GoodH env (S35 (F35 (K66 BIG))):=g_F35 ⟨(gK66 BIG),G_F67,trivial⟩
theorem G_F17:GoodH env (S17 F17):=g_F17 ⟨G_F13,gO_F35,G_F36,trivial⟩
theorem G_F7:GoodH env (S7 F7):=g_F7 ⟨G_F8,(gK15 BIG),G_F13,G_F17,trivial⟩
theorem G_F34:GoodH env (S34 F34):=g_F34 trivial
theorem gG16:∀n,GoodH env (S16 (K16 n))∧GoodH env (S33 (K33 n))
 | 0=>⟨GH0 ⟨Tryz.f16,fn_16,rfl,by kernel_rfl⟩ (fun _=>rfl),GH0 ⟨Tryz.f33,fn_33,rfl,by kernel_rfl⟩ (fun _=>rfl)⟩
 | n+1=>by
  have ih:=gG16 n
  obtain⟨ih16,ih33⟩:=ih
  have hF16:GoodH env (S16 (F16 (K16 n) (K33 n))):=g_F16 ⟨ih33,ih16,G_F34,trivial⟩
  have hF33:GoodH env (S33 (F33 (K16 n) (K33 n))):=g_F33 ⟨ih33,ih16,trivial⟩
  exact⟨hF16,hF33⟩
theorem gK16(n:Nat):GoodH env (S16 (K16 n)):=(gG16 n).1
theorem gG25:∀n,GoodH env (S25 (K25 n))∧GoodH env (S61 (K61 n))
 | 0=>⟨GH0 ⟨Tryz.f25,fn_25,rfl,by kernel_rfl⟩ (fun _=>rfl),GH0 ⟨Tryz.f61,fn_61,rfl,by kernel_rfl⟩ (fun _=>rfl)⟩
 | n+1=>by
  have ih:=gG25 n
  obtain⟨ih25,ih61⟩:=ih
  have hF25:GoodH env (S25 (F25 (K25 n) (K61 n))):=g_F25 ⟨ih61,ih25,G_F34,trivial⟩
  have hF61:GoodH env (S61 (F61 (K25 n) (K61 n))):=g_F61 ⟨ih61,ih25,trivial⟩
  exact⟨hF25,hF61⟩
theorem gK25(n:Nat):GoodH env (S25 (K25 n)):=(gG25 n).1
theorem G_F100:GoodH env (S100 F100):=g_F100 trivial
theorem G_F172:GoodH env (S172 F172):=g_F172 trivial
theorem G_F145:GoodH env (S145 F145):=g_F145 ⟨G_F172,trivial⟩
theorem G_F185:GoodH env (S185 F185):=g_F185 trivial
theorem G_F186:GoodH env (S186 F186):=g_F186 trivial
theorem G_F187:GoodH env (S187 F187):=g_F187 trivial
theorem G_F171:GoodH env (S171 F171):=g_F171 trivial
theorem G_F148:GoodH env (S148 F148):=g_F148 ⟨G_F187,G_F171,trivial⟩
theorem G_F238:GoodH env (S238 F238):=g_F238 trivial
theorem G_F214:GoodH env (S214 F214):=g_F214 ⟨G_F238,trivial⟩
theorem gG30:∀n,GoodH env (S101 (K101 n))∧GoodH env (S184 (K184 n))
 | 0=>⟨GH0 ⟨Tryz.f101,fn_101,rfl,by kernel_rfl⟩ (fun _=>rfl),GH0 ⟨Tryz.f184,fn_184,rfl,by kernel_rfl⟩ (fun _=>rfl)⟩
 | n+1=>by
  have ih:=gG30 n
  obtain⟨ih101,ih184⟩:=ih
  have hF65:GoodH env (S65 (F65 (K101 n))):=g_F65 ⟨G_F100,ih101,trivial⟩
  have hF30:GoodH env (S30 (F30 (K101 n))):=g_F30 ⟨hF65,trivial⟩
  have hF146:GoodH env (S146 (F146 (K184 n))):=g_F146 ⟨ih184,trivial⟩
  have hF147:GoodH env (S147 (F147 (K184 n))):=g_F147 ⟨ih184,G_F185,G_F186,trivial⟩
  have hF149:GoodH env (S149 (F149 (K101 n))):=g_F149 ⟨ih101,trivial⟩
  have hF150:GoodH env (S150 (F150 (K101 n) (K184 n))):=g_F150 ⟨hF146,hF30,trivial⟩
  have hF101:GoodH env (S101 (F101 (K101 n) (K184 n))):=g_F101 ⟨G_F145,hF146,hF147,G_F148,hF149,hF65,hF30,hF150,trivial⟩
  have hF184:GoodH env (S184 (F184 (K101 n) (K184 n))):=g_F184 ⟨G_F214,G_F172,hF146,hF30,trivial⟩
  exact⟨hF101,hF184⟩
theorem gK101(n:Nat):GoodH env (S101 (K101 n)):=(gG30 n).1
theorem gO_F65:GoodH env (S65 (F65 (K101 BIG))):=g_F65 ⟨G_F100,(gK101 BIG),trivial⟩
theorem gO_F30:GoodH env (S30 (F30 (K101 BIG))):=g_F30 ⟨gO_F65,trivial⟩
theorem G_F14:GoodH env (S14 F14):=g_F14 ⟨(gK16 BIG),(gK25 BIG),gO_F30,trivial⟩
theorem G_F4:GoodH env (S4 F4):=g_F4 ⟨G_F12,G_F7,G_F13,G_F14,(gK15 BIG),(gK16 BIG),trivial⟩
theorem good_F4(l1:List Cmd)(h:F4 l1=some true):Good env 4 [vC l1] [] [ab true] []:=G_F4.1 l1 true h
end Go.Abs.U48
