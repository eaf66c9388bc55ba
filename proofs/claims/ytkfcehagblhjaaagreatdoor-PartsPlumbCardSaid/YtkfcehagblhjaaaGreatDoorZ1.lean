/- The walks put together: what each function of the program returns is what its plain definition returns; no condition. -/
import Derived.Test.YtkfcehagblhjaaaGreatDoorLG
import Derived.Test.YtkfcehagblhjaaaGreatDoorIT
import Derived.Test.YtkfcehagblhjaaaGreatDoorW1
import Derived.Test.YtkfcehagblhjaaaGreatDoorW2
import Derived.Test.YtkfcehagblhjaaaGreatDoorW3
import Derived.Test.YtkfcehagblhjaaaGreatDoorW4
import Derived.Test.YtkfcehagblhjaaaGreatDoorW5
import Derived.Test.YtkfcehagblhjaaaGreatDoorW6
import Derived.Test.YtkfcehagblhjaaaGreatDoorW7
set_option linter.unusedVariables false
set_option linter.unusedSimpArgs false
set_option linter.defProp false
namespace Go.Abs.U54
open Go.RowKit Go.Proofs
theorem gL_Join:GoodH env SL_Join:=⟨by rintro⟨xs,sep⟩ s h;exact g_L_Join xs sep s h,⟨Tryz.f21,fn_21,rfl,by kernel_rfl⟩⟩
theorem gL_SplitN:GoodH env SL_SplitN:=⟨by rintro⟨s,sep,n⟩ l h;exact g_L_SplitN s sep n l h,⟨Tryz.f36,fn_36,rfl,by kernel_rfl⟩⟩
theorem gL_ReplaceAll:GoodH env SL_ReplaceAll:=⟨by rintro⟨s,a,b⟩ t h;exact g_L_ReplaceAll s a b t h,⟨Tryz.f44,fn_44,rfl,by kernel_rfl⟩⟩
theorem gL_SContains:GoodH env SL_SContains:=⟨by rintro⟨s,p⟩ ok h;exact g_L_SContains s p ok h,⟨Tryz.f59,fn_59,rfl,by kernel_rfl⟩⟩
theorem gL_WriteString:GoodH env SL_WriteString:=⟨by rintro⟨b,s⟩ ⟨n,c⟩ h;exact g_L_WriteString b s n c h,⟨Tryz.f64,fn_64,rfl,by kernel_rfl⟩⟩
theorem gL_String:GoodH env SL_String:=⟨by rintro b s h;exact g_L_String b s h,⟨Tryz.f65,fn_65,rfl,by kernel_rfl⟩⟩
theorem gL_Compare:GoodH env SL_Compare:=⟨by rintro⟨a,b⟩ n h;exact g_L_Compare a b n h,⟨Tryz.f71,fn_71,rfl,by kernel_rfl⟩⟩
theorem gL_IndexByte:GoodH env SL_IndexByte:=⟨by rintro⟨s,c⟩ n h;exact g_L_IndexByte s c n h,⟨Tryz.f90,fn_90,rfl,by kernel_rfl⟩⟩
theorem gL_CloneI:GoodH env SL_CloneI:=⟨by rintro xs l h;exact g_L_CloneI xs l h,⟨Tryz.f109,fn_109,rfl,by kernel_rfl⟩⟩
theorem gL_Clone:GoodH env SL_Clone:=⟨by rintro xs l h;exact g_L_Clone xs l h,⟨Tryz.f112,fn_112,rfl,by kernel_rfl⟩⟩
theorem gL_CloneQ:GoodH env SL_CloneQ:=⟨by rintro xs l h;exact g_L_CloneQ xs l h,⟨Tryz.f113,fn_113,rfl,by kernel_rfl⟩⟩
theorem gL_FormatInt:GoodH env SL_FormatInt:=⟨by rintro⟨n,b⟩ s h;exact g_L_FormatInt n b s h,⟨Tryz.f134,fn_134,rfl,by kernel_rfl⟩⟩
theorem gL_Len64:GoodH env SL_Len64:=⟨by rintro x n h;exact g_L_Len64 x n h,⟨Tryz.f144,fn_144,rfl,by kernel_rfl⟩⟩
theorem gL_CloneA:GoodH env SL_CloneA:=⟨by rintro xs l h;exact g_L_CloneA xs l h,⟨Tryz.f146,fn_146,rfl,by kernel_rfl⟩⟩
theorem gL_Repeat:GoodH env SL_Repeat:=⟨by rintro⟨s,n⟩ t h;exact g_L_Repeat s n t h,⟨Tryz.f178,fn_178,rfl,by kernel_rfl⟩⟩
theorem gL_WriteByte:GoodH env SL_WriteByte:=⟨by rintro⟨b,c⟩ d h;exact g_L_WriteByte b c d h,⟨Tryz.f226,fn_226,rfl,by kernel_rfl⟩⟩
theorem G_F43:GoodH env (S43 F43):=g_F43 ⟨gL_IndexByte,trivial⟩
theorem G_F14:GoodH env (S14 F14):=g_F14 ⟨G_F43,gL_ReplaceAll,trivial⟩
theorem G_F149:GoodH env (S149 F149):=g_F149 trivial
theorem G_F75:GoodH env (S75 F75):=g_F75 ⟨G_F149,trivial⟩
theorem G_F89x1:GoodH env (S89x1 F89x1):=g_F89x1 trivial
theorem G_F88x1:GoodH env (S88x1 F88x1):=g_F88x1 ⟨G_F89x1,G_F75,trivial⟩
theorem G_F164x1:GoodH env (S164x1 F164x1):=g_F164x1 trivial
theorem G_F165x1:GoodH env (S165x1 F165x1):=g_F165x1 ⟨G_F89x1,G_F75,gL_IndexByte,trivial⟩
theorem G_F230x1:GoodH env (S230x1 F230x1):=g_F230x1 ⟨G_F89x1,gL_IndexByte,G_F75,trivial⟩
theorem G_F231x1:GoodH env (S231x1 F231x1):=g_F231x1 ⟨G_F89x1,gL_IndexByte,gL_WriteString,G_F75,gL_String,trivial⟩
theorem G_F163x1:GoodH env (S163x1 F163x1):=g_F163x1 ⟨G_F230x1,gL_WriteByte,G_F89x1,G_F75,G_F231x1,gL_WriteString,gL_Repeat,gL_String,trivial⟩
theorem G_F160x1:GoodH env (S160x1 F160x1):=g_F160x1 trivial
theorem G_F166x1:GoodH env (S166x1 F166x1):=g_F166x1 ⟨gL_IndexByte,G_F160x1,trivial⟩
theorem G_F93x1:GoodH env (S93x1 F93x1):=g_F93x1 ⟨G_F164x1,G_F165x1,G_F163x1,G_F166x1,trivial⟩
theorem G_F40:GoodH env (S40 F40):=g_F40 ⟨G_F88x1,G_F89x1,G_F75,G_F93x1,trivial⟩
theorem G_F95:GoodH env (S95 F95):=g_F95 trivial
theorem G_F172:GoodH env (S172 F172):=g_F172 trivial
theorem G_F235:GoodH env (S235 F235):=g_F235 trivial
theorem G_F234:GoodH env (S234 F234):=g_F234 ⟨G_F172,G_F235,trivial⟩
theorem G_F168:GoodH env (S168 F168):=g_F168 ⟨G_F172,G_F234,trivial⟩
theorem G_F240:GoodH env (S240 F240):=g_F240 ⟨gL_IndexByte,trivial⟩
theorem G_F241:GoodH env (S241 F241):=g_F241 ⟨gL_IndexByte,gL_SContains,trivial⟩
theorem G_F171:GoodH env (S171 F171):=g_F171 ⟨G_F240,G_F241,trivial⟩
theorem G_F236:GoodH env (S236 F236):=g_F236 ⟨G_F235,trivial⟩
theorem G_F237:GoodH env (S237 F237):=g_F237 trivial
theorem G_F169:GoodH env (S169 F169):=g_F169 ⟨G_F172,G_F171,G_F235,G_F236,G_F237,trivial⟩
theorem G_F326:GoodH env (S326 F326):=g_F326 trivial
theorem G_F356:GoodH env (S356 F356):=g_F356 ⟨G_F172,G_F236,trivial⟩
theorem G_F239:GoodH env (S239 F239):=g_F239 ⟨G_F234,trivial⟩
theorem G_F345:GoodH env (S345 F345):=g_F345 ⟨G_F356,G_F239,trivial⟩
theorem G_F335:GoodH env (S335 F335):=g_F335 ⟨G_F172,G_F171,G_F236,G_F345,G_F237,trivial⟩
theorem G_F307:GoodH env (S307 F307):=g_F307 ⟨G_F172,G_F240,G_F326,G_F235,G_F171,G_F169,G_F335,trivial⟩
theorem G_F279:GoodH env (S279 F279):=g_F279 ⟨G_F307,G_F239,trivial⟩
theorem G_F238:GoodH env (S238 F238):=g_F238 ⟨G_F279,G_F239,trivial⟩
theorem G_F170:GoodH env (S170 F170):=g_F170 ⟨G_F238,G_F239,trivial⟩
theorem G_F96:GoodH env (S96 F96):=g_F96 ⟨G_F168,G_F169,G_F170,G_F172,G_F171,trivial⟩
theorem G_F41:GoodH env (S41 F41):=g_F41 ⟨G_F95,G_F96,trivial⟩
theorem gG98:∀n,GoodH env (S98 (K98 n))
 | 0=>GH0 ⟨Tryz.f98,fn_98,rfl,by kernel_rfl⟩ (fun _=>rfl)
 | n+1=>by
   have ih:=gG98 n
   have ih98:=ih
   have hF173:GoodH env (S173 (F173 (K98 n))):=g_F173 ⟨ih98,trivial⟩
   have hF98:GoodH env (S98 (F98 (K98 n))):=g_F98 ⟨ih98,hF173,trivial⟩
   exact hF98
theorem gK98(n:Nat):GoodH env (S98 (K98 n)):=(gG98 n)
theorem G_F176:GoodH env (S176 F176):=g_F176 trivial
theorem G_F101:GoodH env (S101 F101):=g_F101 ⟨G_F176,trivial⟩
theorem G_F100:GoodH env (S100 F100):=g_F100 ⟨G_F101,trivial⟩
theorem G_F175:GoodH env (S175 F175):=g_F175 ⟨G_F100,trivial⟩
theorem G_F99:GoodH env (S99 F99):=g_F99 ⟨G_F175,trivial⟩
theorem G_F42:GoodH env (S42 F42):=g_F42 ⟨(gK98 BIG),G_F99,trivial⟩
theorem G_F13:GoodH env (S13 F13):=g_F13 ⟨G_F40,G_F41,G_F42,trivial⟩
theorem G_F45:GoodH env (S45 F45):=g_F45 trivial
theorem G_F46:GoodH env (S46 F46):=g_F46 trivial
theorem G_F15:GoodH env (S15 F15):=g_F15 ⟨G_F45,G_F46,trivial⟩
theorem G_F17:GoodH env (S17 F17):=g_F17 trivial
theorem G_F47:GoodH env (S47 F47):=g_F47 ⟨gL_CloneI,trivial⟩
theorem G_F57:GoodH env (S57 F57):=g_F57 trivial
theorem G_F48:GoodH env (S48 F48):=g_F48 ⟨G_F57,trivial⟩
theorem G_F183:GoodH env (S183 F183):=g_F183 trivial
theorem G_F110:GoodH env (S110 F110):=g_F110 ⟨G_F183,trivial⟩
theorem G_F49:GoodH env (S49 F49):=g_F49 ⟨G_F110,trivial⟩
theorem G_F50:GoodH env (S50 F50):=g_F50 ⟨gL_Clone,gL_CloneQ,trivial⟩
theorem G_F183x1:GoodH env (S183x1 F183x1):=g_F183x1 trivial
theorem G_F114:GoodH env (S114 F114):=g_F114 ⟨G_F183x1,trivial⟩
theorem G_F183x2:GoodH env (S183x2 F183x2):=g_F183x2 trivial
theorem G_F115:GoodH env (S115 F115):=g_F115 ⟨G_F183x2,trivial⟩
theorem G_F51:GoodH env (S51 F51):=g_F51 ⟨G_F114,G_F115,trivial⟩
theorem G_F124:GoodH env (S124 F124):=g_F124 trivial
theorem G_F196:GoodH env (S196 F196):=g_F196 trivial
theorem G_F126:GoodH env (S126 F126):=g_F126 ⟨G_F196,trivial⟩
theorem G_F192:GoodH env (S192 F192):=g_F192 trivial
theorem G_F193:GoodH env (S193 F193):=g_F193 trivial
theorem G_F194:GoodH env (S194 F194):=g_F194 trivial
theorem G_F195:GoodH env (S195 F195):=g_F195 trivial
theorem G_F125:GoodH env (S125 F125):=g_F125 ⟨G_F192,G_F193,G_F194,G_F195,trivial⟩
theorem G_F198:GoodH env (S198 F198):=g_F198 trivial
theorem G_F200:GoodH env (S200 F200):=g_F200 ⟨G_F198,trivial⟩
theorem G_F127:GoodH env (S127 F127):=g_F127 ⟨G_F200,trivial⟩
theorem G_F58:GoodH env (S58 F58):=g_F58 ⟨G_F57,G_F124,G_F126,G_F125,G_F127,trivial⟩
theorem G_F188:GoodH env (S188 F188):=g_F188 trivial
theorem G_F249:GoodH env (S249 F249):=g_F249 trivial
theorem G_F186:GoodH env (S186 F186):=g_F186 ⟨G_F188,G_F249,trivial⟩
theorem G_F55:GoodH env (S55 F55):=g_F55 trivial
theorem G_F187:GoodH env (S187 F187):=g_F187 ⟨G_F186,trivial⟩
theorem G_F116:GoodH env (S116 F116):=g_F116 ⟨G_F58,G_F186,G_F55,G_F187,G_F188,trivial⟩
theorem G_F52:GoodH env (S52 F52):=g_F52 ⟨G_F116,trivial⟩
theorem G_F16:GoodH env (S16 F16):=g_F16 ⟨G_F47,G_F48,G_F49,G_F50,G_F51,G_F52,trivial⟩
theorem G_F53:GoodH env (S53 F53):=g_F53 trivial
theorem G_F54:GoodH env (S54 F54):=g_F54 ⟨G_F53,trivial⟩
theorem G_F56:GoodH env (S56 F56):=g_F56 ⟨G_F54,trivial⟩
theorem G_F18:GoodH env (S18 F18):=g_F18 ⟨G_F53,G_F54,G_F55,G_F56,G_F57,G_F58,trivial⟩
theorem G_F4:GoodH env (S4 F4):=g_F4 ⟨G_F14,G_F13,G_F15,G_F17,G_F16,G_F18,trivial⟩
theorem G_F277:GoodH env (S277 F277):=g_F277 ⟨G_F149,trivial⟩
theorem G_F227:GoodH env (S227 F227):=g_F227 ⟨G_F277,trivial⟩
theorem G_F157:GoodH env (S157 F157):=g_F157 ⟨G_F227,trivial⟩
theorem G_F131:GoodH env (S131 F131):=g_F131 ⟨gL_IndexByte,trivial⟩
theorem G_F158:GoodH env (S158 F158):=g_F158 trivial
theorem G_F207:GoodH env (S207 F207):=g_F207 ⟨G_F158,trivial⟩
theorem G_F129:GoodH env (S129 F129):=g_F129 ⟨G_F207,trivial⟩
theorem G_F86:GoodH env (S86 F86):=g_F86 ⟨G_F157,G_F131,G_F129,trivial⟩
theorem G_F60:GoodH env (S60 F60):=g_F60 ⟨G_F86,trivial⟩
theorem G_F130:GoodH env (S130 F130):=g_F130 trivial
theorem G_F207x1:GoodH env (S207x1 F207x1):=g_F207x1 ⟨G_F130,trivial⟩
theorem G_F129x1:GoodH env (S129x1 F129x1):=g_F129x1 ⟨G_F207x1,trivial⟩
theorem G_F61:GoodH env (S61 F61):=g_F61 ⟨G_F129x1,trivial⟩
theorem G_F19:GoodH env (S19 F19):=g_F19 ⟨gL_SContains,G_F60,G_F61,trivial⟩
theorem G_F62:GoodH env (S62 F62):=g_F62 ⟨G_F131,gL_ReplaceAll,trivial⟩
theorem G_F20:GoodH env (S20 F20):=g_F20 ⟨G_F60,G_F62,gL_Join,trivial⟩
theorem G_F66:GoodH env (S66 F66):=g_F66 trivial
theorem G_F67:GoodH env (S67 F67):=g_F67 ⟨gL_FormatInt,trivial⟩
theorem G_F22:GoodH env (S22 F22):=g_F22 ⟨G_F66,G_F67,trivial⟩
theorem G_F5:GoodH env (S5 F5):=g_F5 ⟨G_F19,G_F20,G_F22,gL_Join,trivial⟩
theorem G_F23:GoodH env (S23 F23):=g_F23 trivial
theorem G_F68:GoodH env (S68 F68):=g_F68 trivial
theorem G_F24:GoodH env (S24 F24):=g_F24 ⟨G_F68,trivial⟩
theorem G_F70:GoodH env (S70 F70):=g_F70 ⟨gL_Len64,trivial⟩
theorem G_F27:GoodH env (S27 F27):=g_F27 ⟨gL_Compare,trivial⟩
theorem G_F26:GoodH env (S26 F26):=g_F26 ⟨G_F27,trivial⟩
theorem G_F135:GoodH env (S135 F135):=g_F135 ⟨G_F26,trivial⟩
theorem G_F69:GoodH env (S69 F69):=g_F69 ⟨G_F135,trivial⟩
theorem G_F25:GoodH env (S25 F25):=g_F25 ⟨G_F70,G_F69,trivial⟩
theorem G_F6:GoodH env (S6 F6):=g_F6 ⟨G_F23,G_F24,G_F25,trivial⟩
theorem G_F28:GoodH env (S28 F28):=g_F28 trivial
theorem G_F30:GoodH env (S30 F30):=g_F30 trivial
theorem G_F29:GoodH env (S29 F29):=g_F29 ⟨G_F30,trivial⟩
theorem G_F7:GoodH env (S7 F7):=g_F7 ⟨G_F28,G_F29,trivial⟩
theorem G_F73:GoodH env (S73 F73):=g_F73 ⟨gL_CloneA,trivial⟩
theorem G_F31:GoodH env (S31 F31):=g_F31 ⟨G_F73,trivial⟩
theorem G_F32:GoodH env (S32 F32):=g_F32 trivial
theorem G_F8:GoodH env (S8 F8):=g_F8 ⟨G_F31,G_F28,G_F32,trivial⟩
theorem G_F84:GoodH env (S84 F84):=g_F84 trivial
theorem G_F156:GoodH env (S156 F156):=g_F156 ⟨gL_WriteByte,gL_String,trivial⟩
theorem G_F85:GoodH env (S85 F85):=g_F85 ⟨G_F131,G_F75,G_F156,gL_SContains,G_F84,trivial⟩
theorem G_F37:GoodH env (S37 F37):=g_F37 ⟨G_F84,G_F85,G_F86,trivial⟩
theorem G_F87:GoodH env (S87 F87):=g_F87 trivial
theorem G_F38:GoodH env (S38 F38):=g_F38 ⟨G_F66,G_F87,trivial⟩
theorem G_F11:GoodH env (S11 F11):=g_F11 ⟨gL_SplitN,G_F37,G_F38,G_F19,trivial⟩
theorem G_F79:GoodH env (S79 F79):=g_F79 trivial
theorem G_F80:GoodH env (S80 F80):=g_F80 trivial
theorem G_F29x1:GoodH env (S29x1 F29x1):=g_F29x1 ⟨G_F80,trivial⟩
theorem G_F81:GoodH env (S81 F81):=g_F81 ⟨G_F5,trivial⟩
theorem G_F34:GoodH env (S34 F34):=g_F34 ⟨G_F31,G_F5,G_F79,G_F29x1,G_F81,G_F73,trivial⟩
theorem G_F9:GoodH env (S9 F9):=g_F9 ⟨G_F31,G_F28,G_F11,G_F34,trivial⟩
theorem G_F10:GoodH env (S10 F10):=g_F10 ⟨G_F31,G_F28,G_F5,trivial⟩
theorem G_F39:GoodH env (S39 F39):=g_F39 trivial
theorem G_F12:GoodH env (S12 F12):=g_F12 ⟨G_F39,trivial⟩
theorem G_F3:GoodH env (S3 F3):=g_F3 ⟨G_F4,G_F5,G_F6,G_F7,G_F8,G_F9,G_F10,G_F11,G_F12,trivial⟩
theorem good_F3(m1:Plumb)(h:F3 m1=some true):Good env 3 [.pv (.agg [.str m1.src_,.str m1.dst_,.str m1.dir_,.str m1.type_,.slice (List.map Attr.pv m1.attrs_),.str m1.data_])] [] [.pv (.bool true)] []:=G_F3.1 m1 true h
end Go.Abs.U54
