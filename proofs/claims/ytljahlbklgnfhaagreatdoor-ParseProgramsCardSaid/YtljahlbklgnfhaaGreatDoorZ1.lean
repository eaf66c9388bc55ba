import Derived.Test.YtljahlbklgnfhaaGreatDoorLG
import Derived.Test.YtljahlbklgnfhaaGreatDoorIT
import Derived.Test.YtljahlbklgnfhaaGreatDoorPR
import Derived.Test.YtljahlbklgnfhaaGreatDoorW1
import Derived.Test.YtljahlbklgnfhaaGreatDoorW2
import Derived.Test.YtljahlbklgnfhaaGreatDoorW3
import Derived.Test.YtljahlbklgnfhaaGreatDoorW4
import Derived.Test.YtljahlbklgnfhaaGreatDoorW5
import Derived.Test.YtljahlbklgnfhaaGreatDoorW6
import Derived.Test.YtljahlbklgnfhaaGreatDoorW7
import Derived.Test.YtljahlbklgnfhaaGreatDoorW15
import Derived.Test.YtljahlbklgnfhaaGreatDoorW8
import Derived.Test.YtljahlbklgnfhaaGreatDoorW16
import Derived.Test.YtljahlbklgnfhaaGreatDoorW9
import Derived.Test.YtljahlbklgnfhaaGreatDoorW10
import Derived.Test.YtljahlbklgnfhaaGreatDoorW11
import Derived.Test.YtljahlbklgnfhaaGreatDoorW12
import Derived.Test.YtljahlbklgnfhaaGreatDoorW14
import Derived.Test.YtljahlbklgnfhaaGreatDoorW13
set_option linter.unusedVariables false
set_option linter.unusedSimpArgs false
set_option linter.defProp false
namespace Go.Abs.U48
open Go.RowKit Go.Proofs
theorem J0n:Q0a env Z4w:=⟨by rintro b s h;exact J7d b s h,⟨Tryz.f36,X9u,rfl,by kernel_rfl⟩⟩
theorem Q1c:Q0a env Q0x:=⟨by rintro⟨s,c⟩ n h;exact Z8h s c n h,⟨Tryz.f40,V9a,rfl,by kernel_rfl⟩⟩
theorem X9s:Q0a env X1m:=⟨by rintro⟨xs,sep⟩ s h;exact X4g xs sep s h,⟨Tryz.f119,V0w,rfl,by kernel_rfl⟩⟩
theorem Z2d:Q0a env Q7u:=⟨by rintro⟨b,c⟩ d h;exact Z8f b c d h,⟨Tryz.f121,V0u,rfl,by kernel_rfl⟩⟩
theorem Q8t:Q0a env Q5p:=⟨by rintro⟨b,s⟩ ⟨n,c⟩ h;exact Z4f b s n c h,⟨Tryz.f123,X6h,rfl,by kernel_rfl⟩⟩
theorem Z4g:Q0a env Z0q:=⟨by rintro⟨s,n⟩ t h;exact J7e s n t h,⟨Tryz.f124,V0s,rfl,by kernel_rfl⟩⟩
theorem X0n:Q0a env J4r:=⟨by rintro⟨s,sep⟩ ⟨a,b,ok⟩ h;exact X9i s sep a b ok h,⟨Tryz.f161,K9t,rfl,by kernel_rfl⟩⟩
theorem J0o:Q0a env Z2i:=⟨by rintro⟨s,p⟩ ok h;exact Z8g s p ok h,⟨Tryz.f169,K9o,rfl,by kernel_rfl⟩⟩
theorem X9t:Q0a env X1n:=⟨by rintro n s h;exact X4h n s h,⟨Tryz.f189,K9a,rfl,by kernel_rfl⟩⟩
theorem X0o:Q0a env J2y:=⟨by rintro s ⟨n,bad⟩ h;exact X4i s n bad h,⟨Tryz.f199,K8y,rfl,by kernel_rfl⟩⟩
theorem Z8i:Q0a env Z0p:=⟨by rintro⟨s,a,b⟩ t h;exact Z5t s a b t h,⟨Tryz.f216,K8n,rfl,by kernel_rfl⟩⟩
theorem V1x:Q0a env S74:=V5q trivial
theorem J3e:Q0a env S42:=V6j ⟨V1x,trivial⟩
theorem V3l:Q0a env S117:=K6f ⟨X0n,trivial⟩
theorem V3k:Q0a env S118:=K6e trivial
theorem V1y:Q0a env S72:=V5r ⟨V3l,V3k,X9s,trivial⟩
theorem Z1l:Q0a env J1a:=X9k trivial
theorem Z8w:Q0a env J7o:=X9l ⟨Z1l,trivial⟩
theorem Z1m:Q0a env J1b:=X9o trivial
theorem X1r:Q0a env X5d:=X9p ⟨Z1m,J3e,trivial⟩
theorem K0t:Q0a env K0j:=X9n ⟨Z8w,V1y,Z1l,trivial⟩
theorem X5i:Q0a env X1p:=X4k ⟨Z1m,Q1c,J3e,trivial⟩
theorem X5h:Q0a env X1o:=X4j ⟨Z1m,Q1c,Z1l,Q8t,J3e,J0n,Z2d,trivial⟩
theorem X1q:Q0a env X5b:=X9j ⟨X5i,Z2d,Z1m,J3e,X5h,Q8t,Z4g,J0n,trivial⟩
theorem K0s:Q0a env K0i:=X9m ⟨X1r,X1q,Z1l,Z8w,trivial⟩
theorem Y0p:Q0a env S76:=V5p trivial
theorem V2z:Q0a env S166:=K5f ⟨X0o,X9t,trivial⟩
theorem V3i:Q0a env S125:=K6c ⟨Q1c,X0n,V2z,trivial⟩
theorem Y0o:Q0a env S77:=V5o ⟨Z1m,J3e,Q1c,V3i,Z1l,trivial⟩
theorem Y0n:Q0a env S78:=V5n ⟨Q1c,Z8w,trivial⟩
theorem V3h:Q0a env S126:=K6b trivial
theorem Y0m:Q0a env S79:=V5m ⟨V3h,Z1l,Z4g,Z8w,trivial⟩
theorem Y0u:Q0a env S44:=V6i ⟨Y0p,Y0o,Y0n,Y0m,X1q,trivial⟩
theorem Y0y:Q0a env S19:=V6w ⟨X1r,Z1m,Q1c,K0t,J3e,K0s,Y0u,trivial⟩
theorem Y0t:Q0a env S46:=V6h ⟨V1y,trivial⟩
theorem Q4n:Q0a env S84:=V5i trivial
theorem J4x:Q0a env S128:=K5z trivial
theorem J4y:Q0a env S127:=K6a ⟨Q4n,J4x,trivial⟩
theorem X5g:Q0a env S80:=V5l ⟨Q4n,J4y,trivial⟩
theorem X1x:Q0a env S133:=K5v ⟨Q1c,trivial⟩
theorem X6z:Q0a env S134:=K5u ⟨Q1c,J0o,trivial⟩
theorem J3c:Q0a env S83:=V5j ⟨X1x,X6z,trivial⟩
theorem Z6y:Q0a env S129:=K5y ⟨J4x,trivial⟩
theorem X1y:Q0a env S130:=K5x trivial
theorem X5f:Q0a env S81:=V5k ⟨Q4n,J3c,J4x,Z6y,X1y,trivial⟩
theorem Z2k:Q0a env S132:=K5w ⟨J4y,trivial⟩
theorem Z2j:Q0a env S168:=K5e ⟨Q4n,trivial⟩
theorem Z8x:Q0a env S48:=V6g trivial
theorem J4w:Q0a env S144:=K5k trivial
theorem Z6x:Q0a env S255:=K3m ⟨Q4n,Z2k,Z8x,trivial⟩
theorem V2d:Q0a env S288:=K2x ⟨V1x,trivial⟩
theorem V2h:Q0a env S276:=K3c ⟨V2d,trivial⟩
theorem X6v:Q0a env S155:=K5h trivial
theorem V2e:Q0a env S287:=K2y ⟨X6v,trivial⟩
theorem V2i:Q0a env S275:=K3d ⟨V2e,trivial⟩
theorem V2g:Q0a env S277:=K3b ⟨X0o,trivial⟩
theorem J4v:Q0a env S256:=K3l ⟨Q4n,X1x,J4w,Z8x,trivial⟩
theorem gG47:∀n,Q0a env (S200 (K200 n))∧Q0a env (S252 (K252 n))
 | 0=>⟨GH0 ⟨Tryz.f200,X6d,rfl,by kernel_rfl⟩ (fun⟨_,_,_,_,_⟩=>rfl),GH0 ⟨Tryz.f252,X6c,rfl,by kernel_rfl⟩ (fun⟨_,_,_,_⟩=>rfl)⟩
 | n+1=>by
  have ih:=gG47 n
  obtain⟨ih200,ih252⟩:=ih
  have hF167:Q0a env (S167 (K200 n)):=X6a ⟨ih200,Z2k,Z2j,trivial⟩
  have hF131:Q0a env (S131 (K200 n)):=X6b ⟨hF167,Z2k,Z2j,trivial⟩
  have hF82:Q0a env (S82 (K200 n)):=K2q ⟨hF131,Z2k,trivial⟩
  have hF47:Q0a env (S47 (K200 n)):=K2u ⟨X5g,X5f,hF82,Q4n,J3c,Z8x,trivial⟩
  have hF223:Q0a env (S223 (K200 n) (K252 n)):=K4d ⟨Q4n,ih252,X5f,ih200,trivial⟩
  have hF224:Q0a env (S224 (K200 n)):=K4c ⟨Q4n,Z2j,ih200,trivial⟩
  have hF253:Q0a env (S253 (K200 n)):=K3o ⟨Z6x,hF47,trivial⟩
  have hF254:Q0a env (S254 (K252 n)):=K3n ⟨Q4n,Z4g,Q1c,J3e,V2h,V2i,X0n,V2g,ih252,trivial⟩
  have hF225:Q0a env (S225 (K200 n) (K252 n)):=K4b ⟨Q4n,hF253,X1y,hF254,trivial⟩
  have hF226:Q0a env (S226 (K200 n)):=K4a ⟨Q4n,Z6x,hF47,Z2j,ih200,trivial⟩
  have hF257:Q0a env (S257 (K252 n)):=K3k ⟨Z2j,Q4n,Z6y,ih252,trivial⟩
  have hF227:Q0a env (S227 (K200 n) (K252 n)):=K3z ⟨Q4n,Z6x,J4v,J3c,hF257,Z2j,ih200,trivial⟩
  have hF258:Q0a env (S258 (K200 n) (K252 n)):=K3j ⟨Q4n,ih252,Z6y,X5g,hF47,trivial⟩
  have hF228:Q0a env (S228 (K200 n) (K252 n)):=K3y ⟨Q4n,ih252,Z6x,X5g,J3c,hF258,trivial⟩
  have hF229:Q0a env (S229 (K200 n)):=K3x ⟨Q4n,J4v,J4y,hF253,trivial⟩
  have hF230:Q0a env (S230 (K252 n)):=K3w ⟨Q4n,ih252,Z6y,trivial⟩
  have hF231:Q0a env (S231 (K252 n)):=K3v ⟨Q4n,J3c,Z8x,Z6y,ih252,X1y,hF254,trivial⟩
  have hF200:Q0a env (S200 (F200 (K200 n) (K252 n))):=K4n ⟨Q4n,X1x,J4w,J4x,hF223,hF224,hF225,J3c,hF226,hF227,hF228,hF229,hF230,Z8x,X5f,hF231,trivial⟩
  have hF286:Q0a env (S286 (K252 n)):=K2z ⟨Q4n,J4v,J4y,hF257,Z8x,Z6x,trivial⟩
  have hF274:Q0a env (S274 (K200 n) (K252 n)):=K3e ⟨Q4n,Z6y,Z8x,hF286,J4v,hF257,Z6x,hF253,trivial⟩
  have hF252:Q0a env (S252 (F252 (K200 n) (K252 n))):=K3p ⟨hF274,Z2k,trivial⟩
  exact⟨hF200,hF252⟩
theorem V7d(n:Nat):Q0a env (S200 (K200 n)):=(gG47 n).1
theorem X9q:Q0a env (S167 (K200 BIG)):=X6a ⟨(V7d BIG),Z2k,Z2j,trivial⟩
theorem X9r:Q0a env (S131 (K200 BIG)):=X6b ⟨X9q,Z2k,Z2j,trivial⟩
theorem K6n:Q0a env (S82 (K200 BIG)):=K2q ⟨X9r,Z2k,trivial⟩
theorem K6r:Q0a env (S47 (K200 BIG)):=K2u ⟨X5g,X5f,K6n,Q4n,J3c,Z8x,trivial⟩
theorem Y0x:Q0a env S20:=V6v ⟨Y0t,K6r,Z8x,trivial⟩
theorem V2c:Q0a env S32:=V6n trivial
theorem gG15:∀n,Q0a env (S15 (K15 n))∧Q0a env (S31 (K31 n))
 | 0=>⟨GH0 ⟨Tryz.f15,K9y,rfl,by kernel_rfl⟩ (fun _=>rfl),GH0 ⟨Tryz.f31,K7e,rfl,by kernel_rfl⟩ (fun _=>rfl)⟩
 | n+1=>by
  have ih:=gG15 n
  obtain⟨ih15,ih31⟩:=ih
  have hF15:Q0a env (S15 (F15 (K15 n) (K31 n))):=V6z ⟨ih15,ih31,V2c,trivial⟩
  have hF31:Q0a env (S31 (F31 (K15 n) (K31 n))):=V6o ⟨ih15,ih31,trivial⟩
  exact⟨hF15,hF31⟩
theorem gK15(n:Nat):Q0a env (S15 (K15 n)):=(gG15 n).1
theorem gG51:∀n,Q0a env (S51 (K51 n))∧Q0a env (S86 (K86 n))
 | 0=>⟨GH0 ⟨Tryz.f51,K7b,rfl,by kernel_rfl⟩ (fun _=>rfl),GH0 ⟨Tryz.f86,K6x,rfl,by kernel_rfl⟩ (fun _=>rfl)⟩
 | n+1=>by
  have ih:=gG51 n
  obtain⟨ih51,ih86⟩:=ih
  have hF51:Q0a env (S51 (F51 (K51 n) (K86 n))):=V6d ⟨ih51,ih86,V2c,trivial⟩
  have hF86:Q0a env (S86 (F86 (K51 n) (K86 n))):=V5g ⟨ih86,ih51,trivial⟩
  exact⟨hF51,hF86⟩
theorem gK51(n:Nat):Q0a env (S51 (K51 n)):=(gG51 n).1
theorem Y0r:Q0a env S50:=V6e ⟨(gK51 BIG),trivial⟩
theorem Y0l:Q0a env S85:=V5h ⟨Y0r,trivial⟩
theorem Y0s:Q0a env S49:=V6f ⟨Y0l,trivial⟩
theorem V2s:Q0a env S21:=V6u ⟨(gK15 BIG),Y0s,trivial⟩
theorem G_F8:Q0a env S8:=g_F8 ⟨Y0y,Y0x,V2s,trivial⟩
theorem V1v:Q0a env S99:=V4u ⟨J4w,trivial⟩
theorem V2k:Q0a env S262:=K3g trivial
theorem V2n:Q0a env S235:=K3r ⟨V2k,trivial⟩
theorem X6s:Q0a env S209:=K4g ⟨V2n,trivial⟩
theorem V2j:Q0a env S263:=K3f trivial
theorem V2f:Q0a env S278:=K3a ⟨V2j,Q1c,trivial⟩
theorem V2l:Q0a env S260:=K3h ⟨J4w,V2f,trivial⟩
theorem V2o:Q0a env S234:=K3s ⟨V2l,trivial⟩
theorem V2p:Q0a env S233:=K3t ⟨V2o,trivial⟩
theorem V2m:Q0a env S259:=K3i ⟨V2p,trivial⟩
theorem V2q:Q0a env S232:=K3u ⟨V2m,trivial⟩
theorem X6t:Q0a env S207:=K4h ⟨V2q,trivial⟩
theorem V2r:Q0a env S213:=K4e ⟨X6t,X6s,Q1c,X6z,trivial⟩
theorem gG29:∀n,Q0a env (S98 (K98 n))∧Q0a env (S182 (K182 n))
 | 0=>⟨GH0 ⟨Tryz.f98,K6w,rfl,by kernel_rfl⟩ (fun _=>rfl),GH0 ⟨Tryz.f182,X6e,rfl,by kernel_rfl⟩ (fun _=>rfl)⟩
 | n+1=>by
  have ih:=gG29 n
  obtain⟨ih98,ih182⟩:=ih
  have hF64:Q0a env (S64 (K98 n)):=K2r ⟨ih98,trivial⟩
  have hF63:Q0a env (S63 (K98 n)):=K2s ⟨hF64,trivial⟩
  have hF85x1:Q0a env (X5a (K98 n)):=X0l ⟨hF63,trivial⟩
  have hF49x1:Q0a env (X5c (K98 n)):=X0m ⟨hF85x1,trivial⟩
  have hF29:Q0a env (S29 (K98 n)):=K2w ⟨hF49x1,trivial⟩
  have hF143:Q0a env (S143 (K182 n)):=K5l ⟨ih182,trivial⟩
  have hF98:Q0a env (S98 (F98 (K182 n))):=V4v ⟨hF143,trivial⟩
  have hF210:Q0a env (S210 (K98 n)):=K4f ⟨V1v,hF29,trivial⟩
  have hF182:Q0a env (S182 (F182 (K98 n) (K182 n))):=K4r ⟨V1v,hF29,X6s,hF210,ih182,X6t,V2r,trivial⟩
  exact⟨hF98,hF182⟩
theorem gK98(n:Nat):Q0a env (S98 (K98 n)):=(gG29 n).1
theorem K6o:Q0a env (S64 (K98 BIG)):=K2r ⟨(gK98 BIG),trivial⟩
theorem K6p:Q0a env (S63 (K98 BIG)):=K2s ⟨K6o,trivial⟩
theorem X4l:Q0a env (X5a (K98 BIG)):=X0l ⟨K6p,trivial⟩
theorem X4m:Q0a env (X5c (K98 BIG)):=X0m ⟨X4l,trivial⟩
theorem K6t:Q0a env (S29 (K98 BIG)):=K2w ⟨X4m,trivial⟩
theorem V3g:Q0a env S13:=V7a ⟨V2s,K6t,trivial⟩
theorem V2a:Q0a env S36:=V6k trivial
theorem V3m:Q0a env S108:=K6g ⟨X6v,trivial⟩
theorem V3a:Q0a env S163:=K5g trivial
theorem V3j:Q0a env S123:=K6d ⟨V3a,trivial⟩
theorem Z4y:Q0a env S103:=K6l ⟨V3j,trivial⟩
theorem K0p:Q0a env S67:=V5s ⟨V2a,V3m,Z4y,trivial⟩
theorem X7a:Q0a env S105:=K6j trivial
theorem V2u:Q0a env S190:=K4o ⟨Z8i,Z4y,trivial⟩
theorem X6w:Q0a env S152:=K5j ⟨V2u,Z4y,trivial⟩
theorem V3n:Q0a env S106:=K6i ⟨Z4y,X6w,X7a,trivial⟩
theorem V3b:Q0a env S153:=K5i ⟨Z4y,X6w,trivial⟩
theorem gG35:∀n,Q0a env (S66 (K66 n))
 | 0=>GH0 ⟨Tryz.f66,K6z,rfl,by kernel_rfl⟩ (fun⟨_,_,_⟩=>rfl)
 | n+1=>by
  have ih:=gG35 n
  have ih66:=ih
  have hF35:Q0a env (S35 (K66 n)):=K2v ⟨ih66,K0p,trivial⟩
  have hF104:Q0a env (S104 (K66 n)):=K6k ⟨Z4y,K0p,hF35,trivial⟩
  have hF107:Q0a env (S107 (K66 n)):=K6h ⟨hF104,ih66,Z4y,V3b,trivial⟩
  have hF66:Q0a env (S66 (F66 (K66 n))):=V5t ⟨hF104,X7a,V3n,hF107,trivial⟩
  exact hF66
theorem gK66(n:Nat):Q0a env (S66 (K66 n)):=(gG35 n)
theorem K6s:Q0a env (S35 (K66 BIG)):=K2v ⟨(gK66 BIG),K0p,trivial⟩
theorem Y0z:Q0a env S17:=V6x ⟨V3g,K6s,V2a,trivial⟩
theorem G_F7:Q0a env (S7 F7):=g_F7 ⟨G_F8,(gK15 BIG),V3g,Y0z,trivial⟩
theorem V3f:Q0a env S135:=K5t trivial
theorem J7p:Q0a env S53:=V6b trivial
theorem X5e:Q0a env S89:=V5d ⟨J7p,trivial⟩
theorem Y0k:Q0a env S87:=V5f ⟨V3f,J7p,X5e,trivial⟩
theorem K0o:Q0a env S88:=V5e trivial
theorem V1z:Q0a env S54:=V6a trivial
theorem Y0j:Q0a env S90:=V5c ⟨V1z,J7p,trivial⟩
theorem X6y:Q0a env S136:=K5s trivial
theorem V3d:Q0a env S138:=K5q ⟨K0o,X6y,trivial⟩
theorem V3c:Q0a env S139:=K5p trivial
theorem V1w:Q0a env S94:=V4y ⟨V3d,V3c,trivial⟩
theorem Y0i:Q0a env S91:=V5b ⟨K0o,V1w,J7p,X5e,trivial⟩
theorem V2y:Q0a env S170:=K5d trivial
theorem V3e:Q0a env S137:=K5r ⟨V2y,trivial⟩
theorem Y0h:Q0a env S92:=V5a ⟨X6y,V3e,trivial⟩
theorem Y0g:Q0a env S93:=V4z ⟨X5e,trivial⟩
theorem Y0q:Q0a env S52:=V6c ⟨Y0k,K0o,X5e,Y0j,Y0i,Y0h,J7p,Y0g,V1w,trivial⟩
theorem Y0w:Q0a env S22:=V6t ⟨Y0q,J7p,trivial⟩
theorem Y0v:Q0a env S23:=V6s ⟨V1z,trivial⟩
theorem Q7v:Q0a env S59:=V5w trivial
theorem Q8q:Q0a env S58:=V5x ⟨Q7v,trivial⟩
theorem K0r:Q0a env S55:=V5z ⟨Q7v,Q8q,trivial⟩
theorem J1d:Q0a env S171:=K5c trivial
theorem X1w:Q0a env S140:=K5o ⟨Q7v,J1d,trivial⟩
theorem X6u:Q0a env S172:=K5b trivial
theorem X6x:Q0a env S141:=K5n ⟨Q7v,J1d,X6u,trivial⟩
theorem Y0f:Q0a env S95:=V4x ⟨X1w,X6x,trivial⟩
theorem K0q:Q0a env S56:=V5y ⟨Y0f,Q8q,trivial⟩
theorem J3b:Q0a env S97:=V4w ⟨Q7v,trivial⟩
theorem J3d:Q0a env S60:=V5v ⟨Q7v,trivial⟩
theorem X1v:Q0a env S173:=K5a ⟨Q7v,J1d,X6u,J3d,trivial⟩
theorem X1u:Q0a env S174:=K4z ⟨Q8q,J3d,trivial⟩
theorem X1s:Q0a env S203:=K4l ⟨Q7v,Q8q,trivial⟩
theorem X1t:Q0a env S178:=K4v ⟨Q7v,trivial⟩
theorem V2x:Q0a env S176:=K4x ⟨Q8q,X1s,X1t,trivial⟩
theorem V2w:Q0a env S186:=K4q trivial
theorem V2t:Q0a env S204:=K4k trivial
theorem V2v:Q0a env S187:=K4p trivial
theorem gG24:∀n,Q0a env (S142 (K142 n))∧Q0a env (S175 (K175 n))
 | 0=>⟨GH0 ⟨Tryz.f142,X6g,rfl,by kernel_rfl⟩ (fun⟨_,_,_,_,_,_⟩=>rfl),GH0 ⟨Tryz.f175,X6f,rfl,by kernel_rfl⟩ (fun⟨_,_,_,_,_,_⟩=>rfl)⟩
 | n+1=>by
  have ih:=gG24 n
  obtain⟨ih142,ih175⟩:=ih
  have hF96:Q0a env (S96 (K142 n)):=K2p ⟨ih142,Q8q,J3b,trivial⟩
  have hF57:Q0a env (S57 (K142 n)):=K2t ⟨hF96,Q8q,J3b,trivial⟩
  have hF24:Q0a env (S24 (K142 n)):=K3q ⟨K0r,K0q,hF57,Q8q,Q7v,J3d,trivial⟩
  have hF177:Q0a env (S177 (K142 n)):=K4w ⟨Q7v,X1u,hF24,trivial⟩
  have hF179:Q0a env (S179 (K175 n)):=K4u ⟨Q7v,V2w,J1d,V2t,ih175,trivial⟩
  have hF206:Q0a env (S206 (K175 n)):=K4i ⟨ih175,X1s,trivial⟩
  have hF205:Q0a env (S205 (K175 n)):=K4j ⟨J3b,Q8q,ih175,trivial⟩
  have hF180:Q0a env (S180 (K142 n) (K175 n)):=K4t ⟨Q7v,X1u,ih175,X1v,hF206,X1w,hF177,J3b,ih142,hF205,K0r,Q8q,K0q,J3d,hF24,trivial⟩
  have hF181:Q0a env (S181 (K175 n)):=K4s ⟨X1t,hF179,Q7v,V2v,J1d,J3d,X1s,ih175,trivial⟩
  have hF142:Q0a env (S142 (F142 (K142 n) (K175 n))):=K5m ⟨Q7v,X6x,X1v,X1u,ih175,V2x,ih142,Q8q,hF177,X1t,hF179,X1w,hF180,hF181,trivial⟩
  have hF202:Q0a env (S202 (K142 n) (K175 n)):=K4m ⟨Q7v,Q8q,X1v,J3b,J3d,hF205,hF177,trivial⟩
  have hF175:Q0a env (S175 (F175 (K142 n) (K175 n))):=K4y ⟨hF202,Q8q,trivial⟩
  exact⟨hF142,hF175⟩
theorem V7e(n:Nat):Q0a env (S142 (K142 n)):=(gG24 n).1
theorem K6m:Q0a env (S96 (K142 BIG)):=K2p ⟨(V7e BIG),Q8q,J3b,trivial⟩
theorem K6q:Q0a env (S57 (K142 BIG)):=K2t ⟨K6m,Q8q,J3b,trivial⟩
theorem K6u:Q0a env (S24 (K142 BIG)):=K3q ⟨K0r,K0q,K6q,Q8q,Q7v,J3d,trivial⟩
theorem V2b:Q0a env S34:=V6l trivial
theorem gG16:∀n,Q0a env (S16 (K16 n))∧Q0a env (S33 (K33 n))
 | 0=>⟨GH0 ⟨Tryz.f16,K9u,rfl,by kernel_rfl⟩ (fun _=>rfl),GH0 ⟨Tryz.f33,K7d,rfl,by kernel_rfl⟩ (fun _=>rfl)⟩
 | n+1=>by
  have ih:=gG16 n
  obtain⟨ih16,ih33⟩:=ih
  have hF16:Q0a env (S16 (F16 (K16 n) (K33 n))):=V6y ⟨ih33,ih16,V2b,trivial⟩
  have hF33:Q0a env (S33 (F33 (K16 n) (K33 n))):=V6m ⟨ih33,ih16,trivial⟩
  exact⟨hF16,hF33⟩
theorem gK16(n:Nat):Q0a env (S16 (K16 n)):=(gG16 n).1
theorem gG25:∀n,Q0a env (S25 (K25 n))∧Q0a env (S61 (K61 n))
 | 0=>⟨GH0 ⟨Tryz.f25,K7z,rfl,by kernel_rfl⟩ (fun _=>rfl),GH0 ⟨Tryz.f61,K7a,rfl,by kernel_rfl⟩ (fun _=>rfl)⟩
 | n+1=>by
  have ih:=gG25 n
  obtain⟨ih25,ih61⟩:=ih
  have hF25:Q0a env (S25 (F25 (K25 n) (K61 n))):=V6r ⟨ih61,ih25,V2b,trivial⟩
  have hF61:Q0a env (S61 (F61 (K25 n) (K61 n))):=V5u ⟨ih61,ih25,trivial⟩
  exact⟨hF25,hF61⟩
theorem gK25(n:Nat):Q0a env (S25 (K25 n)):=(gG25 n).1
theorem G_F9:Q0a env S9:=g_F9 ⟨Y0w,Y0v,K6u,(gK16 BIG),(gK25 BIG),trivial⟩
theorem gG10:∀n,Q0a env (S10 (K10 n))∧Q0a env (S26 (K26 n))
 | 0=>⟨GH0 ⟨Tryz.f10,V1g,rfl,by kernel_rfl⟩ (fun⟨_,_⟩=>rfl),GH0 ⟨Tryz.f26,K7r,rfl,by kernel_rfl⟩ (fun⟨_,_⟩=>rfl)⟩
 | n+1=>by
  have ih:=gG10 n
  obtain⟨ih10,ih26⟩:=ih
  have hF10:Q0a env (S10 (F10 (K10 n) (K26 n))):=V7c ⟨ih26,ih10,trivial⟩
  have hF26:Q0a env (S26 (F26 (K10 n) (K26 n))):=V6q ⟨ih26,ih10,trivial⟩
  exact⟨hF10,hF26⟩
theorem gK10(n:Nat):Q0a env (S10 (K10 n)):=(gG10 n).1
theorem gG11:∀n,Q0a env (S11 (K11 n))∧Q0a env (S27 (K27 n))
 | 0=>⟨GH0 ⟨Tryz.f11,V0z,rfl,by kernel_rfl⟩ (fun⟨_,_⟩=>rfl),GH0 ⟨Tryz.f27,K7n,rfl,by kernel_rfl⟩ (fun⟨_,_⟩=>rfl)⟩
 | n+1=>by
  have ih:=gG11 n
  obtain⟨ih11,ih27⟩:=ih
  have hF11:Q0a env (S11 (F11 (K11 n) (K27 n))):=V7b ⟨ih11,ih27,trivial⟩
  have hF27:Q0a env (S27 (F27 (K11 n) (K27 n))):=V6p ⟨ih27,ih11,trivial⟩
  exact⟨hF11,hF27⟩
theorem gK11(n:Nat):Q0a env (S11 (K11 n)):=(gG11 n).1
theorem G_F3:Q0a env S3:=g_F3 ⟨G_F7,G_F8,G_F9,(gK10 BIG),(gK11 BIG),trivial⟩
theorem good_F3(s1:Str)(h:F3 s1=some true):Good env 3 [as_ s1] [] [ab true] []:=G_F3.1 s1 true h
end Go.Abs.U48
